import Derived.Test.YtkgfanibfkdbfaaGreatDoorLPrintsY2
import Derived.Lib.AppendZerosOnto
namespace Go.Xp
section
open Go.Eng Go
open Go.Ty (Tok A3)
open Go.Lx (J6)
set_option maxRecDepth 100000
def c7c(rd:List Tok->a1B)(ok:List Tok->Prop)(sz:Ex->Nat):Prop:=
 ∀ts x r,rd ts=.ok (x,r)->∃p,(ts=p++r/\1<=p.length)/\sz x<=p.length/\∀r',ok r'->rd (p++r')=.ok (x,r')
abbrev wl(x:Ex):Nat:=(A8 x).length
abbrev ol(x:Ex):Nat:=(B7 x).length
abbrev c8z(ins:B->B->List Tok->a1B):Prop:=∀o s,s=[93]\/s=[41]->c7c (ins o s) (λ_=>True) (λx=>wl x+2)
theorem c9k(x:Ex):ol x<=wl x+2:=a0y (par x.k,A8 x)
theorem c3u{x:Ex}(h:par x.k=false):ol x=wl x:=by unfold ol wl B7 N4;rw[h];rfl
theorem c9A(x:Ex):wl x<=ol x:=by
 unfold wl ol B7 N4;split
 ·simp only[List.length_cons,List.length_append]
  omega
 ·exact Nat.le_refl _
theorem b5g:D9 []=zeroT:=rfl
theorem a1t(s:B):zeroT≠D7 s:=λe=>by
 have hk:(0:Int)=(D7 s).kind:=congrArg Tok.kind e;rcases a0b s with h|h
 ·have:=hk.trans h;omega
 ·have:=hk.trans h;omega
theorem b4r{ins:B->B->List Tok->a1B}:V1 ins []=.error 100:=by rw[Q3 b5g,if_neg (by decide),if_neg (by decide),if_neg (a1t _),if_neg (a1t _),if_neg (by decide),if_neg (by decide)]
theorem c0e{ins:B->B->List Tok->a1B}(hi:c8z ins):c7c (V1 ins) a9W ol:=by
 intro ts x r h;cases ts with
 |nil=>rw[b4r]at h;cases h
 |cons t q=>
  obtain⟨u,hu⟩:∃u,∀q',D9 (t::q')=u:=⟨_,λ_=>rfl⟩;rw[Q3 (hu q),List.tail_cons]at h;have one:∀{x:Ex},wl x=1->par x.k=false->ol x<=[t].length:=λh1 h2=>by rw[c3u h2,h1];exact Nat.le_refl 1
  by_cases k3:u.kind=3
  ·rw[if_pos k3]at h
   cases h;exact⟨[t],⟨rfl,Nat.le_refl 1⟩,one rfl rfl,λr' _=>by rw[List.singleton_append,Q3 (hu r'),if_pos k3];rfl⟩
  rw[if_neg k3]at h;by_cases k4:u.kind=4
  ·rw[if_pos k4]at h
   cases h;exact⟨[t],⟨rfl,Nat.le_refl 1⟩,one rfl rfl,λr' _=>by rw[List.singleton_append,Q3 (hu r'),if_neg k3,if_pos k4];rfl⟩
  rw[if_neg k4]at h;by_cases f:u=D7 [70,65,76,83,69]
  ·rw[if_pos f]at h
   cases h;exact⟨[t],⟨rfl,Nat.le_refl 1⟩,one rfl rfl,λr' _=>by rw[List.singleton_append,Q3 (hu r'),if_neg k3,if_neg k4,if_pos f];rfl⟩
  rw[if_neg f]at h;by_cases g:u=D7 [84,82,85,69]
  ·rw[if_pos g]at h
   cases h;exact⟨[t],⟨rfl,Nat.le_refl 1⟩,one rfl rfl,λr' _=>by rw[List.singleton_append,Q3 (hu r'),if_neg k3,if_neg k4,if_neg f,if_pos g];rfl⟩
  rw[if_neg g]at h;by_cases k1:u.kind=1
  ·rw[if_pos k1]at h
   by_cases b:D9 q=B9 [91]
   ·rw[if_pos b]at h
    cases hq:ins [91] [93] q with
    |error e=>rw[hq]at h;cases h
    |ok w=>
     obtain⟨y,r1⟩:=w;rw[hq]at h;cases h;obtain⟨p,⟨hp,hp1⟩,hs,hf⟩:=hi [91] [93] (.inl rfl) q y _ hq;refine⟨t::p,⟨by rw[hp];rfl,Nat.succ_le_succ (Nat.zero_le _)⟩,?_,λr' _=>?_⟩
     ·rw[c3u rfl]
      show(C9 u.text::B9 [91]::(A8 y++[B9 [93]])).length<=(t::p).length;simp only[List.length_cons,List.length_append,List.length_nil];simp only[wl]at hs;omega
     ·have hb:D9 (p++r')=B9 [91]:=by
       rw[hp]at b;cases p with
       |nil=>exact absurd hp1 (by decide)
       |cons v w=>exact b
      rw[List.cons_append,Q3 (hu _),if_neg k3,if_neg k4,if_neg f,if_neg g,if_pos k1,List.tail_cons,if_pos hb,hf r' trivial]
   ·rw[if_neg b]at h
    cases h;exact⟨[t],⟨rfl,Nat.le_refl 1⟩,one rfl rfl,λr' hr=>by rw[List.singleton_append,Q3 (hu r'),if_neg k3,if_neg k4,if_neg f,if_neg g,if_pos k1,List.tail_cons,if_neg hr]⟩
  rw[if_neg k1]at h;by_cases o:u=B9 [40]
  ·rw[if_pos o]at h
   obtain⟨p,⟨hp,hp1⟩,hs,hf⟩:=hi [40] [41] (.inr rfl) _ x r h;refine⟨p,⟨hp,hp1⟩,Nat.le_trans (c9k x) hs,λr' _=>?_⟩;cases p with
   |nil=>exact absurd hp1 (by decide)
   |cons v w=>have hv:v=t:=(List.cons.inj hp).1.symm;subst hv;rw[List.cons_append,Q3 (hu _),if_neg k3,if_neg k4,if_neg f,if_neg g,if_neg k1,if_pos o];exact hf r' trivial
  ·rw[if_neg o]at h
   cases h
theorem b6Y{mk:Ex->Ex}{p:a1B}{x:Ex}{r:List Tok}(h:unQ mk p=.ok (x,r)):∃y,p=.ok (y,r)/\x=mk y:=by
 cases p with
 |error e=>cases h
 |ok q=>obtain⟨y,z⟩:=q;cases h;exact⟨y,rfl,rfl⟩
theorem a8e:∀n o:Nat,opF zeroT n o=0
 |0,_=>rfl
 |n+1,o=>by
  unfold opF;rw[if_neg (show zeroT≠G3 o from a1t _)];exact a8e n (o+1)
theorem c2e{ins:B->B->List Tok->a1B}:a2a ins []=.error 100:=by rw[a0q b5g,if_neg (a1t _),if_neg (by unfold a1s;rw[if_neg (a1t _),if_neg (a1t _),if_neg (a1t _)];decide),if_neg (by rw[a8e];decide),b4r]
theorem c3C{p:List Tok}(hp:1<=p.length)(r r':List Tok):D9 (p++r)=D9 (p++r'):=by
 cases p with
 |nil=>exact absurd hp (by decide)
 |cons t q=>rfl
theorem b1f{ins:B->B->List Tok->a1B}(hi:c8z ins):c7c (a2a ins) (λr=>a9W r/\b3f r) wl:=by
 have hO:=c0e hi;intro ts x r h;cases ts with
 |nil=>rw[c2e]at h;cases h
 |cons t q=>
  obtain⟨u,hu⟩:∃u,∀q',D9 (t::q')=u:=⟨_,λ_=>rfl⟩;rw[a0q (hu q),List.tail_cons]at h;by_cases k1:u=D7 [83,73,90,69]
  ·rw[if_pos k1]at h
   by_cases k2:(D9 q).kind=1
   ·rw[if_pos k2]at h
    cases q with
    |nil=>cases k2
    |cons v w=>cases h;refine⟨[t,v],⟨rfl,Nat.succ_le_succ (Nat.zero_le _)⟩,Nat.le_refl 2,λr' _=>?_⟩;rw[show[t,v]++r'=t::v::r' from rfl,a0q (hu _),List.tail_cons,if_pos k1,if_pos (show(D9 (v::r')).kind=1 from k2)];rfl
   ·rw[if_neg k2]at h
    cases h
  rw[if_neg k1]at h;by_cases k2:a1s u≠0
  ·rw[if_pos k2]at h
   obtain⟨y,hy,rfl⟩:=b6Y h;obtain⟨p,⟨hp,hp1⟩,hs,hf⟩:=hO q y r hy;refine⟨t::p,⟨by rw[hp];rfl,Nat.succ_le_succ (Nat.zero_le _)⟩,?_,λr' hr=>?_⟩
   ·show(D7 (M9 (a1s u))::B7 y).length<=(t::p).length
    exact Nat.succ_le_succ hs
   ·rw[List.cons_append,a0q (hu _),List.tail_cons,if_neg k1,if_pos k2,hf r' hr.1]
    rfl
  rw[if_neg k2]at h;by_cases k3:opF u 4 23≠0
  ·rw[if_pos k3]at h
   obtain⟨y,hy,rfl⟩:=b6Y h;obtain⟨p,⟨hp,hp1⟩,hs,hf⟩:=hO q y r hy;refine⟨t::p,⟨by rw[hp];rfl,Nat.succ_le_succ (Nat.zero_le _)⟩,?_,λr' hr=>?_⟩
   ·show(G3 (opF u 4 23)::B7 y).length<=(t::p).length
    exact Nat.succ_le_succ hs
   ·rw[List.cons_append,a0q (hu _),List.tail_cons,if_neg k1,if_neg k2,if_pos k3,hf r' hr.1]
    rfl
  rw[if_neg k3]at h;cases hq:V1 ins (t::q)with
  |error e=>rw[hq]at h;cases h
  |ok w=>
   obtain⟨a,r1⟩:=w;rw[hq]at h;obtain⟨p,⟨hp,hp1⟩,hs,hf⟩:=hO _ a r1 hq;have hd:∀r',a2a ins (p++r')=match V1 ins (p++r')with
    | .error e=>.error e
    | .ok (a,r)=>if opF (D9 r) 22 1≠0 then unQ (λb=>sx 7 (opF (D9 r) 22 1) 0 0 [] [a,b]) (V1 ins r.tail)else .ok (a,r):=λr'=>by
    have hn:D9 (p++r')=u:=by rw[c3C hp1 r' r1,<-hp];exact hu q
    rw[a0q hn,if_neg k1,if_neg k2,if_neg k3]<;>rfl
   by_cases k4:opF (D9 r1) 22 1≠0
   ·replace h:=(if_pos k4).symm.trans h
    obtain⟨y,hy,rfl⟩:=b6Y h;cases r1 with
    |nil=>exact absurd (a8e 22 1) k4
    |cons v w=>
     obtain⟨p2,⟨hp2,hp21⟩,hs2,hf2⟩:=hO w y r hy;have hv:∀w',D9 (v::w')=D9 (v::w):=λ_=>rfl
     have hb:∀w',a9W (v::w'):=λw' e=>by
      rw[hv,]at e;rw[e]at k4;exact k4 (by decide +kernel)
     refine⟨p++v::p2,⟨by rw[hp,hp2];simp,by rw[List.length_append];omega⟩,?_,λr' hr=>?_⟩
     ·show(B7 a++G3 (opF (D9 (v::w)) 22 1)::B7 y).length<=_
      simp only[List.length_append,List.length_cons];simp only[ol]at hs hs2;omega
     ·rw[List.append_assoc,List.cons_append,hd,hf _ (hb _)]
      show(if opF (D9 (v::(p2++r'))) 22 1≠0 then unQ (λb=>sx 7 (opF (D9 (v::(p2++r'))) 22 1) 0 0 [] [a,b]) (V1 ins (v::(p2++r')).tail)else .ok (a,v::(p2++r')))=_;rw[hv,if_pos k4,List.tail_cons,hf2 r' hr.1];rfl
   ·replace h:=(if_neg k4).symm.trans h
    cases h;refine⟨p,⟨hp,hp1⟩,?_,λr' hr=>?_⟩
    ·exact Nat.le_trans (c9A _) hs
    ·rw[hd,hf r' hr.1]
     exact if_neg (λk=>k hr.2)
theorem b5c:∀f,c8z (a03 f)
 |0=>λ_ _ _ _ _ _ h=>by cases h
 |f+1=>λo s ho ts x r h=>by
  unfold a03 at h;by_cases k1:D9 ts=B9 o
  ·rw[if_pos k1]at h
   cases ts with
   |nil=>cases congrArg Tok.kind k1
   |cons t q=>
    rw[List.tail_cons]at h;cases hq:a2a (a03 f) q with
    |error e=>rw[hq]at h;cases h
    |ok w=>
     obtain⟨y,r1⟩:=w;rw[hq]at h;by_cases k2:D9 r1=B9 s
     ·replace h:=(if_pos k2).symm.trans h
      cases r1 with
      |nil=>cases congrArg Tok.kind k2
      |cons v w=>
       cases h;obtain⟨p,⟨hp,hp1⟩,hs,hf⟩:=b1f (b5c f) q _ _ hq;have hv:∀w',D9 (v::w')=B9 s:=λ_=>k2
       refine⟨t::(p++[v]),⟨by rw[hp];simp,Nat.succ_le_succ (Nat.zero_le _)⟩,?_,λr' _=>?_⟩
       ·simp only[List.length_cons,List.length_append,List.length_nil]
        simp only[wl]at hs⊢;omega
       ·have hno:a9W (v::r')/\b3f (v::r'):=by
         unfold a9W b3f;rw[hv];rcases ho with rfl|rfl<;>exact⟨by decide +kernel,by decide +kernel⟩
        rw[show t::(p++[v])++r'=t::(p++v::r') by simp];unfold a03;rw[if_pos (show D9 (t::(p++v::r'))=B9 o from k1),List.tail_cons,hf _ hno];exact if_pos k2
     ·replace h:=(if_neg k2).symm.trans h
      cases h
  ·rw[if_neg k1]at h
   cases h
abbrev Er(rd:List Tok->a1B):Prop:=∀ts e,rd ts=.error e->e=100\/e=3
abbrev c7J(ins:B->B->List Tok->a1B):Prop:=∀o s,Er (ins o s)
theorem c5N{ins:B->B->List Tok->a1B}(hi:c7J ins):Er (V1 ins):=by
 intro ts e h;rw[Q3 rfl]at h;repeat' split at h
 all_goals first|(cases h;done)|(cases h;rename_i h2;exact hi _ _ _ _ h2)|exact hi _ _ _ _ h|(cases h;exact .inl rfl)
theorem c6Y{mk:Ex->Ex}{p:a1B}{e:Int}(h:unQ mk p=.error e):p=.error e:=by
 cases p with
 |error f=>cases h;rfl
 |ok q=>cases h
theorem b8s{ins:B->B->List Tok->a1B}(hi:c7J ins):Er (a2a ins):=by
 intro ts e h;have hO:=c5N hi;rw[a0q rfl]at h;repeat' split at h
 all_goals first|(cases h;done)|exact hO _ _ (c6Y h)|(cases h;rename_i h2;exact hO _ _ h2)|(cases h;exact .inl rfl)
theorem c3S:∀f,c7J (a03 f)
 |0=>λ_ _ _ _ h=>by cases h;exact .inr rfl
 |f+1=>λo s ts e h=>by
  unfold a03 at h;repeat' split at h
  all_goals first|(cases h;done)|(cases h;rename_i h2;exact b8s (c3S f) _ _ h2)|(cases h;exact .inl rfl)
theorem c1L{ts:List Tok}{x:Ex}{k:Nat}(h:V2 ts=.ok (x,k)):((1<=k/\k<=ts.length)/\F8 x=true)/\(A8 x).length<=k/\V2 (ts.take k)=.ok (x,k):=by
 unfold V2 at h;cases hq:b1P ts with
 |error e=>rw[hq]at h;cases h
 |ok w=>
  obtain⟨y,r⟩:=w;rw[hq]at h;by_cases hm:F8 y=true
  ·replace h:=(if_pos hm).symm.trans h
   cases h;obtain⟨p,⟨hp,hp1⟩,hs,hf⟩:=b1f (b5c 32) ts _ _ hq;have hl:ts.length-r.length=p.length:=by rw[hp,List.length_append];omega
   have ht:ts.take (ts.length-r.length)=p:=by rw[hl,hp,List.take_left]
   have he:=hf [] ⟨by unfold a9W;decide +kernel,by unfold b3f;decide +kernel⟩;rw[List.append_nil]at he;refine⟨⟨⟨by omega,by omega⟩,hm⟩,by rw[hl];exact hs,?_⟩;rw[ht];unfold V2 b1P;rw[he];show(if F8 _ then Except.ok (_,p.length-0)else .error 3)=_;rw[if_pos hm,hl,Nat.sub_zero]
  ·replace h:=(if_neg hm).symm.trans h
   cases h
theorem b4K{ts:List Tok}{e:Int}(h:V2 ts=.error e):e=100\/e=3:=by
 unfold V2 at h;cases hq:b1P ts with
 |error f=>rw[hq]at h;cases h;exact b8s (c3S 32) ts _ hq
 |ok w=>
  obtain⟨y,r⟩:=w;rw[hq]at h;by_cases hm:F8 y=true
  ·replace h:=(if_pos hm).symm.trans h
   cases h
  ·replace h:=(if_neg hm).symm.trans h
   cases h;exact .inr rfl
theorem a4i{ts:List Tok}:a1k ts<=ts.length:=by
 unfold a1k;cases h:V2 ts with
 |error e=>exact Nat.zero_le _
 |ok w=>exact(c1L h).1.1.2
end
end Go.Xp
namespace Go.Ty
section
open Go.Lx
def wordR(k:Int):B:=if k==1 then b9f else if k==2 then b1B else b2s
theorem b4V{k:Int}(h:is k=true):(wordS k).1=wordR k:=by rw[b5L]at h;unfold prim at h;simp at h;rcases h with(rfl|rfl)|rfl<;>rfl
theorem b0C{t:Ty}(h:may t=true)(h5:(t.kind==5)=true):dimT t++[L7 a2T]=toks t:=by
 have e:t.kind=5:=by simpa using h5
 have e2:eqT t timer=true:=by
  unfold may at h;split at h
  ·cases h
  ·rw[e]at h
   exact h
 rw[eqT_iff]at e2;subst e2;rfl
theorem b0M{t:Ty}(h:may t=true)(h5:(t.kind==5)=false)(h4:(t.kind !=4)=true):dimT t++[L7 (wordR t.kind)]=toks t:=by
 have hk:is t.kind=true:=by
  unfold may at h;split at h
  ·cases h
  ·split at h
   ·assumption
   ·rw[eqT_iff]at h
    subst h;cases h5
 have h4':(t.kind==4)=false:=by simpa using h4
 unfold toks chanT lastT a5e;rw[h4'];simp only[Bool.false_eq_true,if_false,List.append_nil];have hk':(wordS t.kind).2.2=true:=hk;rw[hk',if_pos rfl,b4V hk]
theorem a5p{t:Ty}(h:may t=true)(h4:(t.kind !=4)=false):(t.item=0/\name t.proto=true)\/(is t.item=true/\t.proto=[]):=by
 have h4':t.kind=4:=by simpa using h4
 unfold may at h;split at h
 ·cases h
 ·rw[h4']at h
  rw[if_neg (by decide),if_neg (by decide)]at h;split at h
  ·rename_i h0;exact .inl ⟨by simpa using h0,h⟩
  ·simp at h;exact .inr h
theorem b0A{t:Ty}(h:may t=true)(h4:(t.kind !=4)=false)(hp:(!(t.proto==[]))=true):dimT t++[L7 a1e,L7 cOF]++[⟨1,0,t.proto,0⟩]=toks t:=by
 have h4':(t.kind==4)=true:=by simpa using h4
 rcases a5p h h4 with⟨h0,_⟩|⟨_,h0⟩
 ·unfold toks chanT lastT a5e
  rw[h4',h0,hp];rfl
 ·rw[h0]at hp;cases hp
theorem b1i{t:Ty}(h:may t=true)(h4:(t.kind !=4)=false)(hp:(!(t.proto==[]))=false):dimT t++[L7 a1e,L7 cOF]++[L7 (wordR t.item)]=toks t:=by
 have h4':(t.kind==4)=true:=by simpa using h4
 rcases a5p h h4 with⟨_,h0⟩|⟨hi,_⟩
 ·have:t.proto=[]:=by simpa using hp
  rw[this]at h0;cases h0
 ·have hi':(wordS t.item).2.2=true:=hi
  unfold toks chanT lastT a5e;rw[h4',if_pos rfl,if_pos rfl,hi',if_pos rfl,b4V hi]
end
section
open Go.Lx
def C6(x:Tok):Tok:={ x with at_:=0 }
def M(l:List Tok)(i:Nat)(y:Tok):Prop:=∃x,l[i]?=some x/\C6 x=y
def a3q(l:List Tok):Nat->List Tok->Prop
 |_,[]=>True
 |i,y::w=>M l i y/\a3q l (i+1) w
theorem M.lt{l:List Tok}{i:Nat}{y:Tok}(a:M l i y):i<l.length:=by obtain⟨x,hx,_⟩:=a;exact(List.getElem?_eq_some_iff.1 hx).1
theorem a0h(l:List Tok):∀(u w:List Tok)(i:Nat),a3q l i (u++w)↔a3q l i u/\a3q l (i+u.length) w
 | [],w,i=>by simp[a3q]
 |y::u,w,i=>by
  show(M l i y/\a3q l (i+1) (u++w))↔(M l i y/\a3q l (i+1) u)/\a3q l (i+(u.length+1)) w;rw[a0h l u w (i+1),and_assoc,show i+1+u.length=i+(u.length+1) by omega]
theorem a7g{l:List Tok}{i:Nat}{y:Tok}:M l i y↔i<l.length/\C6 (L4 l i)=y:=by
 constructor
 ·intro m
  have h:=m.lt;obtain⟨x,hx,e⟩:=m;rw[a2H h]at hx;cases hx;exact⟨h,e⟩
 ·rintro⟨h,e⟩;exact⟨_,a2H h,e⟩
theorem O9{l:List Tok}{i:Nat}{kd:Int}{s:B}(h3:kd≠3):next l i kd s=true↔M l i ⟨kd,0,s,0⟩:=by
 rw[a7g];unfold next a4K C6;generalize L4 l i=x;cases x;simp[h3];constructor
 ·rintro⟨⟨⟨a,b⟩,c⟩,d⟩;exact⟨a,b,c,d⟩
 ·rintro⟨a,b,c,d⟩;exact⟨⟨⟨a,b⟩,c⟩,d⟩
theorem c1l{l:List Tok}{i:Nat}{s:B}:next l i 3 s=true↔M l i ⟨3,0,s,(L4 l i).n⟩:=by
 rw[a7g];unfold next a4K C6;generalize L4 l i=x;cases x;simp;constructor
 ·rintro⟨⟨a,b⟩,c⟩;exact⟨a,b,c⟩
 ·rintro⟨a,b,c⟩;exact⟨⟨a,b⟩,c⟩
theorem a3A{l:List Tok}{i:Nat}{kd:Int}{s:B}{y:Tok}(m:M l i y)(h:y.kind≠kd\/y.text≠s):next l i kd s=false:=by
 cases hn:next l i kd s with
 |false=>rfl
 |true=>
  exfalso;obtain⟨_,e⟩:=a7g.1 m;subst e;unfold next a4K at hn;simp at hn;rcases h with h|h
  ·exact h hn.1.1.2
  ·exact h hn.1.2
theorem a9w(l:List Tok)(i:Nat):named l i=if next l i 2 b9f then some 1 else if next l i 2 b1B then some 2 else if next l i 2 b2s then some 3 else none:=rfl
theorem is_three{k:Int}(h:is k=true):k=1\/k=2\/k=3:=by rw[b5L]at h;unfold prim at h;simp at h;omega
theorem a9r{l:List Tok}{i:Nat}{k:Int}(h:named l i=some k):is k=true/\M l i (L7 (wordS k).1):=by
 rw[a9w]at h;split at h
 ·cases h;rename_i hn;exact⟨by decide,(O9 (by decide)).1 hn⟩
 ·split at h
  ·cases h;rename_i hn;exact⟨by decide,(O9 (by decide)).1 hn⟩
  ·split at h
   ·cases h;rename_i hn;exact⟨by decide,(O9 (by decide)).1 hn⟩
   ·cases h
theorem b6b{l:List Tok}{i:Nat}{k:Int}(h:is k=true)(m:M l i (L7 (wordS k).1)):named l i=some k:=by
 rw[a9w];rcases is_three h with rfl|rfl|rfl
 ·have m':M l i (L7 b9f):=m
  rw[if_pos ((O9 (by decide)).2 m')]
 ·have m':M l i (L7 b1B):=m
  rw[if_neg (by rw[a3A m' (.inr (by decide))];decide),if_pos ((O9 (by decide)).2 m')]
 ·have m':M l i (L7 b2s):=m
  rw[if_neg (by rw[a3A m' (.inr (by decide))];decide),if_neg (by rw[a3A m' (.inr (by decide))];decide),if_pos ((O9 (by decide)).2 m')]
theorem b0G{l:List Tok}{i:Nat}{y:Tok}(m:M l i y)(h:y.kind≠2\/(y.text≠b9f/\y.text≠b1B/\y.text≠b2s)):named l i=none:=by rw[a9w];rw[if_neg (by rw[a3A m (h.imp_right λh=>h.1)];decide),if_neg (by rw[a3A m (h.imp_right λh=>h.2.1)];decide),if_neg (by rw[a3A m (h.imp_right λh=>h.2.2)];decide)]
inductive Shape(t:Ty):Prop where
 |plain (k d:Int) (hk:is k=true) (e:t=⟨k,d,0,[]⟩)
 |timer (e:t=⟨5,0,0,[]⟩)
 |item (k d:Int) (hk:is k=true) (e:t=⟨4,d,k,[]⟩)
 |proto (s:B) (d:Int) (hs:name s=true) (e:t=⟨4,d,0,s⟩)
theorem may_shape{t:Ty}(h:may t=true):Shape t:=by
 obtain⟨k,d,i,s⟩:=t;by_cases hk:is k=true
 ·unfold may at h
  split at h
  ·cases h
  ·simp only[Bool.and_eq_true,beq_iff_eq]at h
   obtain⟨rfl,rfl⟩:=h;exact .plain k d hk rfl
 ·by_cases h4:k=4
  ·subst h4
   rcases a5p h (by simp)with⟨h0,hn⟩|⟨hi,h0⟩
   ·simp only at h0 hn;subst h0;exact .proto s d hn rfl
   ·simp only at h0 hi;subst h0;exact .item i d hi rfl
  ·unfold may at h
   split at h
   ·cases h
   ·rw[if_pos (by simpa using h4),eqT_iff]at h
    exact .timer h
theorem b7k(k d:Int)(hk:is k=true):toks ⟨k,d,0,[]⟩=dimT ⟨k,d,0,[]⟩++[L7 (wordS k).1]:=by unfold toks;rw[List.append_assoc];rcases is_three hk with rfl|rfl|rfl<;>rfl
theorem b6c(k d:Int)(hk:is k=true):toks ⟨4,d,k,[]⟩=dimT ⟨4,d,k,[]⟩++[L7 a1e,L7 cOF,L7 (wordS k).1]:=by unfold toks;rw[List.append_assoc];rcases is_three hk with rfl|rfl|rfl<;>rfl
theorem c5Y{s:B}(h:name s=true):s≠[]:=by rintro rfl;cases h
theorem b6f(s:B)(d:Int)(hs:name s=true):toks ⟨4,d,0,s⟩=dimT ⟨4,d,0,s⟩++[L7 a1e,L7 cOF,⟨1,0,s,0⟩]:=by
 unfold toks;rw[List.append_assoc];unfold lastT;have:(s==[])=false:=by simpa using c5Y hs
 simp only[this];rfl
theorem c1f{t:Ty}(h:may t=true):∃s w,toks t=dimT t++L7 s::w:=by
 cases may_shape h with
 |plain k d hk e=>subst e;exact⟨_,_,b7k k d hk⟩
 |timer e=>subst e;exact⟨_,_,rfl⟩
 |item k d hk e=>subst e;exact⟨_,_,b6c k d hk⟩
 |proto s d hs e=>subst e;exact⟨_,_,b6f s d hs⟩
theorem c7O{t:Ty}(l:List Tok)(h:may t=true)(hb:a3q l 0 (toks t)):pre l=(true,t.dim,(dimT t).length):=by
 have hd:=may_dim h;obtain⟨s,w,e⟩:=c1f h;rw[e,a0h]at hb;by_cases h0:t.dim=0
 ·have ed:dimT t=[]:=by unfold dimT;rw[h0];rfl
  rw[ed]at hb⊢;rw[c1i (a3A hb.2.1 (.inl (show(2:Int)≠5 by decide))),h0];rfl
 ·have ed:dimT t=[B9 lb,⟨3,0,[],t.dim⟩,B9 rb]:=by unfold dimT;rw[if_pos (by simp;omega)]
  rw[ed]at hb⊢;obtain⟨⟨m0,m1,m2,_⟩,_⟩:=hb;have en:(L4 l 1).n=t.dim:=by obtain⟨_,e1⟩:=a7g.1 m1;exact congrArg Tok.n e1
  rw[b6m ((O9 (by decide)).2 m0) (c1l.2 (by rw[en];exact m1)),en,(O9 (by decide)).2 m2];have:decide (t.dim>0)=true:=by simp;omega
  rw[this];rfl
theorem b2v{l:List Tok}{d:Int}{n:Nat}{k:Int}(hP:pre l=(true,d,n))(hn:named l n=some k):mid l=(true,⟨k,d,0,[]⟩,n+1):=by unfold mid;rw[hP];simp only[hn]
theorem b0K{l:List Tok}{d:Int}{n:Nat}(hP:pre l=(true,d,n))(m0:M l n (L7 a1e))(m1:M l (n+1) (L7 cOF)):mid l=(match named l (n+2)with
 |some k=>(true,⟨4,d,k,[]⟩,n+3)
 |none=>if decide ((n+2:Nat)<(l.length:Int))&&next l (n+2) 1 (L4 l (n+2)).text then(true,⟨4,d,0,(L4 l (n+2)).text⟩,n+3)else(true,⟨4,d,0,[]⟩,n+2)):=by
 unfold mid;rw[hP];simp only[b0G m0 (.inr (by decide)),(O9 (show(2:Int)≠3 by decide)).2 m0,(O9 (show(2:Int)≠3 by decide)).2 m1,if_true];cases named l (n+2)<;>rfl
theorem a9i{t:Ty}{l:List Tok}(h:may t=true)(hb:a3q l 0 (toks t)):front l=(t,(toks t).length,0):=by
 have hP:=c7O l h hb;have hM:mid l=(true,t,(toks t).length):=by
  cases may_shape h with
  |plain k d hk e=>subst e;rw[b7k k d hk]at hb⊢;rw[a0h,Nat.zero_add]at hb;rw[b2v hP (b6b hk hb.2.1),List.length_append];rfl
  |timer e=>subst e;have m:M l 0 (L7 a2T):=hb.1;exact b2P hP (b0G m (.inr (by decide))) (a3A m (.inr (by decide))) ((O9 (by decide)).2 m)
  |item k d hk e=>subst e;rw[b6c k d hk]at hb⊢;rw[a0h,Nat.zero_add]at hb;obtain⟨_,m0,m1,m2,_⟩:=hb;rw[b0K hP m0 m1,b6b hk m2,List.length_append];rfl
  |proto s d hs e=>
   subst e;rw[b6f s d hs]at hb⊢;rw[a0h,Nat.zero_add]at hb;obtain⟨_,m0,m1,m2,_⟩:=hb;have m2':M l ((dimT ⟨4,d,0,s⟩).length+2) ⟨1,0,s,0⟩:=m2;have et:(L4 l ((dimT ⟨4,d,0,s⟩).length+2)).text=s:=congrArg Tok.text (a7g.1 m2').2;have hlt:=m2'.lt;rw[b0K hP m0 m1,b0G m2' (.inl (show(1:Int)≠2 by decide)),et];have c:(decide ((((dimT ⟨4,d,0,s⟩).length+2:Nat):Int)<(l.length:Int))&&next l ((dimT ⟨4,d,0,s⟩).length+2) 1 s)=true:=by rw[(O9 (by decide)).2 m2',Bool.and_true];exact decide_eq_true (by omega)
   simp only[c,if_true,List.length_append];rfl
 exact b1J hM (by rw[h];rfl)
theorem b2J{l:List Tok}{d:Int}{n:Nat}(h:pre l=(true,d,n))(t:Ty)(e:t.dim=d):n=(dimT t).length/\a3q l 0 (dimT t):=by
 by_cases h0:next l 0 5 lb=true
 ·by_cases h1:next l 1 3 []=true
  ·rw[b6m h0 h1]at h
   simp only[Prod.mk.injEq]at h;obtain⟨hc,hd,hn⟩:=h;rw[hc]at hn;simp only[Bool.and_eq_true,decide_eq_true_eq]at hc;have ed:dimT t=[B9 lb,⟨3,0,[],t.dim⟩,B9 rb]:=by unfold dimT;rw[if_pos (by simp;omega)]
   rw[ed];refine⟨hn.symm,(O9 (by decide)).1 h0,?_,(O9 (by decide)).1 hc.2,trivial⟩;rw[e,<-hd];exact c1l.1 h1
  ·rw[c1q h0 (by simpa using h1)]at h
   cases h
 ·rw[c1i (by simpa using h0)]at h
  cases h;have ed:dimT t=[]:=by unfold dimT;rw[e];rfl
  rw[ed];exact⟨rfl,trivial⟩
theorem c8o{l:List Tok}{t:Ty}{n:Nat}(h:mid l=(true,t,n))(hm:may t=true):a3q l 0 (toks t):=by
 obtain⟨⟨b,d,n0⟩,hP⟩:∃p,pre l=p:=⟨_,rfl⟩;cases b with
 |false=>unfold mid at h;rw[hP]at h;cases h
 |true=>
  cases hn:named l n0 with
  |some k=>rw[b2v hP hn]at h;cases h;obtain⟨hk,m⟩:=a9r hn;obtain⟨e,hb⟩:=b2J hP ⟨k,d,0,[]⟩ rfl;rw[b7k k d hk,a0h];subst e;exact⟨hb,by rw[Nat.zero_add];exact m,trivial⟩
  |none=>
   cases hc:next l n0 2 a1e with
   |true=>
    have m0:M l n0 (L7 a1e):=(O9 (by decide)).1 hc;cases ho:next l (n0+1) 2 cOF with
    |false=>unfold mid at h;rw[hP]at h;simp only[hn,hc,ho,if_true,Bool.false_eq_true,if_false]at h;cases h
    |true=>
     have m1:M l (n0+1) (L7 cOF):=(O9 (by decide)).1 ho;rw[b0K hP m0 m1]at h;cases hk:named l (n0+2)with
     |some k=>rw[hk]at h;cases h;obtain⟨hk,m2⟩:=a9r hk;obtain⟨e,hb⟩:=b2J hP ⟨4,d,k,[]⟩ rfl;rw[b6c k d hk,a0h];subst e;rw[Nat.zero_add];exact⟨hb,m0,m1,m2,trivial⟩
     |none=>
      rw[hk]at h;simp only at h;split at h
      ·rename_i hx
       simp only[Bool.and_eq_true]at hx;have m2:=(O9 (show(1:Int)≠3 by decide)).1 hx.2;cases h;have hs:name (L4 l (n0+2)).text=true:=by
        rcases a5p hm rfl with⟨_,hs⟩|⟨hi,_⟩
        ·exact hs
        ·cases hi
       obtain⟨e,hb⟩:=b2J hP ⟨4,d,0,(L4 l (n0+2)).text⟩ rfl;rw[b6f _ d hs,a0h];rw[<-e,Nat.zero_add];exact⟨hb,m0,m1,m2,trivial⟩
      ·cases h
       rcases a5p hm rfl with⟨_,hs⟩|⟨hi,_⟩
       ·cases hs
       ·cases hi
   |false=>
    cases ht:next l n0 2 a2T with
    |true=>
     rw[b2P hP hn hc ht]at h;cases h;have e5:(⟨5,d,0,[]⟩:Ty)=timer:=by
      cases may_shape hm with
      |plain k d hk e=>cases e;cases hk
      |timer e=>exact e
      |item k d hk e=>cases e
      |proto s d hs e=>cases e
     rw[e5];cases e5;obtain⟨e,_⟩:=b2J hP timer rfl;subst e;exact⟨(O9 (by decide)).1 ht,trivial⟩
    |false=>
     rw[b8g hP hn hc ht]at h;cases h;cases may_shape hm with
     |plain k d hk e=>cases e;cases hk
     |timer e=>cases e
     |item k d hk e=>cases e
     |proto s d hs e=>cases e
theorem front_to(l:List Tok):front l=(zeroT,0,90)\/∃t,may t=true/\a3q l 0 (toks t)/\front l=(t,(toks t).length,0):=by
 obtain⟨⟨ok,t,n⟩,hM⟩:∃p,mid l=p:=⟨_,rfl⟩;by_cases hc:(!ok||!may t)=true
 ·exact .inl (b5D hM hc)
 ·simp at hc
  obtain⟨rfl,hm⟩:=hc;have hb:=c8o hM hm;exact .inr ⟨t,hm,hb,a9i hm hb⟩
end
end Go.Ty
namespace Go.Sx
section
open Go.Eng Go.Pc Go
open Go.Xp hiding B
open Go.Ty (Ty Vr Tok)
def stL(s:Sli Ex):Sli Ex:=sl (s.l.map C6)
def stR(r:Rp):Rp:=⟨r.name,C6 r.base,C6 r.count⟩
def a0p(x:Vr):Vr:=vrM x.tag x.items
mutual
def stP:Pr->Pr
 | .mk k n ch tg ex rep _ _ gl _ _ ll pn sp=>.mk k n (C6 ch) (stL tg) (stL ex) (stR rep) none 0 (c5k gl) none 0 (c0o ll) (sl pn.l) (stS sp)
def c0o:List Pr->List Pr
 | []=>[]
 |x::r=>stP x::c0o r
def stG:Gu->Gu
 | .mk k n cond ch tg vl time _ _ bl=>.mk k n (C6 cond) (C6 ch) (stL tg) (stL vl) (C6 time) none 0 (c0o bl)
def c5k:List Gu->List Gu
 | []=>[]
 |x::r=>stG x::c5k r
def stS:Sp->Sp
 | .mk k ty names e cs vs fs _ _ bl=>.mk k ty (sl names.l) (C6 e) cs (sl (vs.l.map a0p)) (sl fs.l) none 0 (c0o bl)
end
theorem a4U:∀l:List Pr,c0o l=l.map stP
 | []=>rfl
 |x::r=>by rw[c0o,a4U r];rfl
theorem b0a:∀l:List Gu,c5k l=l.map stG
 | []=>rfl
 |x::r=>by rw[c5k,b0a r];rfl
theorem a0C(e:Ex):F5 (C6 e)=F5 e:=by unfold F5;rw[U6];cases e;rfl
theorem c2U{k:Int}{s:B}{ts:List Tok}(h:isM k s ts=true):∃t r,ts=t::r/\t.kind=k/\t.text=s:=by
 cases ts with
 |nil=>cases h
 |cons t r=>have h':((t.kind==k)&&(t.text==s))=true:=h;simp only[Bool.and_eq_true,beq_iff_eq]at h';exact⟨t,r,rfl,h'.1,h'.2⟩
theorem c5F{k:Int}{s:B}{ts:List Tok}(h:isM k s ts=true):0<ts.length:=by obtain⟨t,r,rfl,_⟩:=c2U h;exact Nat.succ_pos _
theorem b4A(ts:List Tok):a0i ts=if(ts.getD 0 Go.Ty.zeroK).kind=1 then .ok ((ts.getD 0 Go.Ty.zeroK).text,ts.tail)else .error 110:=by
 cases ts with
 |nil=>rfl
 |cons t r=>rfl
theorem b5R(ts:List Tok):P5 ts=if a6v ts=0 then .ok (a9l ts,ts.drop (a1k ts))else .error 110:=by
 unfold P5 a6v a9l a1k;cases hf:V2 ts with
 |ok x=>obtain⟨x,k⟩:=x;rfl
 |error e=>rcases b4K hf with rfl|rfl<;>rfl
theorem a8z(ts:List Tok):N5 ts=if(ts.getD 0 Go.Ty.zeroK).kind=1 then S3 (P5 ts) λx r=>if F5 x then .ok (x,r)else .error 110 else .error 110:=by cases ts<;>rfl
open Go.Ty in
theorem b4X(l:List Tok):∀(w:List Tok)(i:Nat),a3q l i w->i<=l.length->i+w.length<=l.length
 | [],i,_,hi=>hi
 |y::w,i,h,_=>by
  obtain⟨h1,h2⟩:=(a0h l [y] w i).1 h;have h3:=b4X l w (i+1) h2 (by
   have:=M.lt h1.1;omega)
  simp only[List.length_cons];omega
theorem c7i(ts:List Tok):(Go.Ty.front ts).2.1<=ts.length:=by
 rcases Go.Ty.front_to ts with h|⟨t,hm,hb,h⟩
 ·rw[h];exact Nat.zero_le _
 ·rw[h]
  have:=b4X ts _ 0 hb (Nat.zero_le _);simpa using this
theorem b8L{t:Ty}(h:Go.Ty.may t=true):TyW t:=by
 have hd:=Go.Ty.may_dim h;cases Go.Ty.may_shape h with
 |plain k d hk e=>subst e;have:=Go.Ty.is_three hk;exact⟨by simp only;omega,by simp only;omega,by simp only at hd⊢;omega,Nat.zero_le _⟩
 |timer e=>subst e;exact⟨by decide,by decide,by decide,Nat.zero_le _⟩
 |item k d hk e=>subst e;have:=Go.Ty.is_three hk;exact⟨by simp only;omega,by simp only;omega,by simp only at hd⊢;omega,Nat.zero_le _⟩
 |proto s d hs e=>subst e;refine⟨by simp only;omega,by simp only;omega,by simp only at hd⊢;omega,?_⟩;unfold Go.Lx.name at hs;simp only[Bool.and_eq_true,decide_eq_true_eq]at hs;have:=hs.1.1.1.2;show s.length<=Big;unfold Big;omega
theorem c8N(ts:List Tok):TyW (Go.Ty.front ts).1:=by
 rcases Go.Ty.front_to ts with h|⟨t,hm,hb,h⟩
 ·rw[h];exact⟨by decide,by decide,by decide,Nat.zero_le _⟩
 ·rw[h];exact b8L hm
end
end Go.Sx
namespace Go.Eng
section
open Go Go.RowKit
def b3i(P:Program)(l:Nat)(v v2:Value)(w:World)(R:Bool->World->Prop):Prop:=
 ∃fn tmps assign body,(Instr.yield l #[v,v2]).run P w=.ok (.round l fn tmps assign body) w /\
  RoundIn (fen none) 0 P l fn tmps assign body w λe w'=>∃b,e=.returned (.bool b)/\R b w'
section
variable{P:Program}{ops:Array Oper}{Q:Exit->Act->World->Prop}{n:Cx}{F:Fm}{h h':List Res}{m:View}{rest:List Oper}
variable{op:Op}{ty:TypeId}{pos:String}{after:Array Edge}{d:Nat}{v v2:Value}
theorem b3i.mono{l:Nat}{w:World}{R R':Bool->World->Prop}(h:b3i P l v v2 w R)(hr:∀b w',R b w'->R' b w'):b3i P l v v2 w R':=by obtain⟨fn,tmps,assign,body,h1,h2⟩:=h;exact⟨fn,tmps,assign,body,h1,h2.mono λe w' ⟨b,e1,e2⟩=>⟨b,e1,hr b w' e2⟩⟩
end
end
section
open Go Go.RowKit
section
variable{P:Program}{m m':View}{h h':List Res}{w w':World}
end
section
variable{P:Program}{ops:Array Oper}{Q:Exit->Act->World->Prop}{n:Cx}{F:Fm}{h h':List Res}{m:View}{rest:List Oper}
variable{ty:TypeId}{pos:String}{after:Array Edge}{dst:Option Tmp}{g:Option (Nat×Bool)}{d:Nat}
theorem b6s{α:Type}{enc:α->List Value}{x:Operand}{t:TypeId}{u:TypeDesc}{a:Option Addr}{len cap q sz o k:Nat}{l:List α}{y:α}{vs:List Value}(ht:P.underlying t=some u)(hp:O6 u=false)(hq:(P.info? t).isSome=true)(henc:∀x,(enc x).length=sz)
 (hs:Rd m h a len cap sz (fl enc l)) (ex:Ev n F x (.pointer (elt a (q*sz+o)))) (hx:l[q]?=some y) (hl:P.cellsOf t=k) (hv:seg (enc y) o k=some vs) (h0:0<k):PO P ⟨dst,.load t x,ty,pos,after,g⟩ n F h m (.agg vs.toArray):=
 b2f ht hp hq hs ex (by rw[hl,(a2O hv).1]) (by rw[(a2O hv).1];exact h0) (λj v hj=>by rw[Nat.add_assoc];exact b8d henc hx (o+j) v ((a2O hv).2 j v hj))
theorem c9z(a:Option Addr)(cap sz:Nat)(h:a=none\/∃b off,a=some ⟨b,off,none⟩):sl1 a 0 cap sz=a:=by
 unfold sl1;split
 ·rfl
 ·rcases h with rfl|⟨b,off,rfl⟩
  ·rfl
  ·simp[Addr.add_lit]
theorem CT.know{f:FuncId}{args:List Value}{R:Value->View->List Res->Prop}{A:Prop}(he:∀as w,(callFunc f as).run P w=.ok (.enter f as) w)(ha:∀w,St m h w->A)(k:A->CT P f args h m R):CT P f args h m R:=
 ⟨he,λw hs=>(k (ha w hs)).calls w hs⟩
theorem CT.knowRow{f:FuncId}{args:List Value}{R:Value->View->List Res->Prop}{a:Option Addr}{k cap sz:Nat}{e:TypeId}{ys:List Value}(he:∀as w,(callFunc f as).run P w=.ok (.enter f as) w)(hm:Res.row (.slice a k cap) e sz k ys∈h)
 (kk:k<=cap->cap<=9223372036854775807->ys.length=k*sz->CT P f args h m R):CT P f args h m R:=
 CT.know he (λ_ st=>b0m (st.ok _ hm)) λ⟨h1,h2,h3⟩=>kk h1 h2 h3
end
end
section
open Go Go.RowKit
theorem b1k(a b:ByteArray):(a==b)=(a.data==b.data):=rfl
theorem c5K{n k:List UInt8}(h:¬n=k):((⟨n.toArray⟩:ByteArray)==⟨k.toArray⟩)=false:=by rw[b1k];exact beq_eq_false_iff_ne.2 λe=>h (by simpa using e)
theorem b2N(n:List UInt8):((⟨n.toArray⟩:ByteArray)==⟨n.toArray⟩)=true:=by rw[b1k];exact beq_self_eq_true _
structure MapS(es:Array MapEntry)(ks:List (List UInt8)):Prop where
 a:∀e∈es.toList,∃n,e.key=str n/\e.val=.bool true/\n∈ks
 b:∀n∈ks,∃e∈es.toList,e.key=str n
theorem MapS.nil:MapS #[] []:=⟨λe h=>by simp at h,λn h=>by cases h⟩
section
variable{P:Program}{ops:Array Oper}{Q:Exit->Act->World->Prop}{n:Cx}{F:Fm}{h h':List Res}{m:View}{rest:List Oper}
variable{ty:TypeId}{pos:String}{after:Array Edge}{dst:Option Tmp}{g:Option (Nat×Bool)}{d:Nat}
end
section
variable{P:Program}{ops:Array Oper}{Q:Exit->Act->World->Prop}{n:Cx}{F:Fm}{m:View}{eff:List Nat}{t:Tl}{hs hp:List Res}
variable{ty:TypeId}{pos:String}{after:Array Edge}{d:Nat}
abbrev b4t(e:TypeId)(sz:Nat):Res:=.row (.slice none 0 0) e sz 0 []
theorem St.insNil(e:TypeId)(sz:Nat){fr l1 l2 hs:List Res}{w:World}(s:St m (fr++((l1++l2)++hs)) w):St m (fr++((l1++b4t e sz::l2)++hs)) w:=by
 refine(s.addNil e sz).perm ?_;have h1:(fr++((l1++b4t e sz::l2)++hs)).Perm (b4t e sz::(fr++((l1++l2)++hs))):=by refine(List.Perm.append_left fr ((List.perm_middle (l₁:=l1) (l₂:=l2)).append_right hs)).trans ?_;exact List.perm_middle
 exact h1.symm
theorem a7l(e:TypeId)(sz:Nat){l1 l2:List Res}:∀(r:List Fl){F:Fm}{fr:List Res},a3c P ops Q n t r F (fr++((l1++b4t e sz::l2)++hs)) m->a3c P ops Q n t r F (fr++((l1++l2)++hs)) m
 | [],_,_,h=>WL.mk λa w ha st=>h.e a w ha (st.insNil e sz)
 |(_,_,_)::r,_,fr,h=>λb=>a7l e sz r (fr:=_::fr) (h b)
theorem a5h.imp{r:Result Next}{R R':Value->World->Prop}{X:List PanicEntry->World->Prop}(h:a5h P r R X)(k:∀v w,R v w->R' v w):a5h P r R' X:=by
 cases r with
 |ok x w=>
  cases x with
  |value v=>exact k _ _ h
  |skip=>exact k _ _ h
  |enter f args=>
   refine Calls.mono h λe w' q=>?_
   rcases q with⟨v,rfl,hv⟩|q
   ·exact .inl ⟨v,rfl,k v w' hv⟩
   ·exact .inr q
  |_=>exact h
 |halt _ _=>exact h
theorem SRr.insNil(e:TypeId)(sz:Nat){l1 l2:List Res}:∀(T:Tr){F:Fm},SRr P ops Q n eff t hs T F (l1++b4t e sz::l2) m->SRr P ops Q n eff t hs T F (l1++l2) m
 | .nil,_,h=>a7l e sz t.fl (fr:=[]) h
 | .alt a b,_,h=>⟨SRr.insNil e sz a h.1,SRr.insNil e sz b h.2⟩
 | .op i s,_,h=>by
  obtain⟨o,ho,hd,h⟩:=h;refine⟨o,ho,hd,?_⟩;have hsub:(l1++l2).Sublist (l1++b4t e sz::l2):=(List.sublist_cons_self _ _).append_left l1;cases he:eff.contains i with
  |false=>rw[he]at h;obtain⟨v,pg,hk⟩:=h;exact⟨v,pg,SRr.insNil e sz s hk⟩
  |true=>
   rw[he]at h;dsimp only at h⊢;cases hr:a6q o with
   |true=>rw[hr]at h;obtain⟨v,pg,hk⟩:=h;exact⟨v,⟨λa w ha st=>pg.e a w ha (St.insNil e sz (fr:=[]) st)⟩,SRr.insNil e sz s hk⟩
   |false=>
    rw[hr]at h;dsimp only at h⊢;have sat:∀{G:Fm}{l:List Res},Sat n hs G (l++l2) m->Sat n hs G (l++b4t e sz::l2) m:=λ⟨fr,a,w,ha,st⟩=>⟨fr,a,w,ha,st.insNil e sz⟩
    cases hmk:a4o o&&eff.contains 4096 with
    |true=>rw[hmk]at h;exact⟨λs a ha=>h.ex (sat s) a ha,λa ha k cs el hout b s'=>SRr.insNil e sz (l1:=_::l1) s (h.k a ha k cs el hout b (sat (l:=_::l1) s'))⟩
    |false=>
    rw[hmk]at h;dsimp only at h⊢;refine⟨λfr a w ha st=>?_⟩;obtain⟨h1,h2⟩:=h.e fr a w ha (St.insNil e sz st);refine⟨λhw=>(h1 hw).imp λv w' q=>?_,λhw=>?_⟩
    ·obtain⟨m',hp',q1,q2,q3,q4⟩:=q
     exact⟨m',hp',q1,q2,λha=>hsub.trans (q3 ha),q4⟩
    ·exact⟨λ_=>List.Sublist.refl _,SRr.insNil e sz s (h2 hw).2⟩
theorem a1p{q:Nat}{s:Tr}{tt e k:Nat}{sz by_:Nat}{ps:List (Nat×Operand)}{vs:List (Nat×Value)}{z:Value}{zs cs:List Value}{gd:Nat×Bool}{c:Bool}
 (ho:ops[q]?=some ⟨some d,.buildSlice tt k ps.toArray,ty,pos,after,some gd⟩) (he:eff.contains q=true) (hg:GU ops n F gd c) (E:EL P tt e sz by_) (hz:(P.info? e).bind (·.zero)=some z) (ev:c=true->EvP n F ps vs)
 (hzs:a8l z k=some zs) (hf:a4O (λi=>some (i*sz,sz)) zs vs=some cs) (hk:k*sz<=16777216) (h0:Nat.beq (k*sz) 0=false) (hd:d<n.num)
 (kk:∀b r,(c=true->r=.pt b (.cells cs.toArray e (0,0)))->SR P ops Q n eff t hs s ((d,gv c (.slice (some ⟨b,0,none⟩) k k))::F) (r::hp) m) :
 SR P ops Q n eff t hs (.op q s) F hp m:=⟨_,ho,λy hy=>by cases hy;exact hd,by
 rw[he];simp only[a9c,a9L,Bool.false_and];refine⟨λfr f w hf' st=>?_⟩;have hy:=hg.wanted (dst:=some d) (op:=.buildSlice tt k ps.toArray) (ty:=ty) (pos:=pos) (after:=after) hf';cases c with
 |true=>refine⟨λ_=>?_,λh=>by rw[hy]at h;cases h⟩;have hrun:=a02 (P:=P) w (dst:=some d) (ty:=ty) (pos:=pos) (after:=after) (g:=some gd) E hz (ev rfl) hzs hf hk h0 hf';rw[hrun];exact⟨m,.pt w.heap.size (.cells cs.toArray e)::hp,Vl,(st.alloc _).perm List.perm_middle.symm,λ_=>List.sublist_cons_self _ _,(kk w.heap.size _ (λ_=>rfl)).e⟩
 |false=>refine⟨λh=>(by rw[hy]at h;cases h),λ_=>⟨λ_=>List.Sublist.refl _,?_⟩⟩;exact SRr.insNil e sz (l1:=[]) s (kk 0 (b4t e sz) (λh=>by cases h)).e⟩
end
section
variable{P:Program}{n:Cx}{F:Fm}{h:List Res}{m:View}
variable{ty:TypeId}{pos:String}{after:Array Edge}{dst:Option Tmp}{g:Option (Nat×Bool)}
def eqP(P:Program)(o:TypeId)(t:TypeId)(xs ys:List Value)(off:Nat):Option Bool:=match P.underlying t with
 |some (.struct gs)=>match Nat.beq t o with
  |true=>match (P.info? t).map (·.size)with
   |some k=>match seg xs off k with
    |some as=>match seg ys off k with
     |some bs=>b6E P as bs gs.toList
     |none=>none
    |none=>none
   |none=>none
  |false=>none
 |some d=>match O6 d with
  |true=>match xs[off]? with
   |some a=>match ys[off]? with
    |some b=>eqC d a b
    |none=>none
   |none=>none
  |false=>none
 |none=>none
def b7S(P:Program)(o:TypeId)(xs ys:List Value):List Field->Option Bool
 | []=>some true
 |f::fs=>match eqP P o f.type xs ys f.offset with
  |some r=>match b7S P o xs ys fs with
   | some q => match (f.name != "_") with
    |true=>some (r&&q)
    |false=>none
   |none=>none
  |none=>none
theorem b5d{xs as:List Value}{off k:Nat}(h:seg xs off k=some as):(xs.drop off).take k=as:=by
 obtain⟨h1,h2⟩:=a2O h;subst h1;refine List.ext_getElem? λi=>?_;rcases Nat.lt_or_ge i as.length with hi|hi
 ·have:=h2 i _ (List.getElem?_eq_getElem hi)
  rw[List.getElem?_take_of_lt hi,List.getElem?_drop,this,List.getElem?_eq_getElem hi]
 ·rw[List.getElem?_eq_none hi,List.getElem?_eq_none (by rw[List.length_take];omega)]
theorem c5X(w:World)(d:Nat){o t:TypeId}(ho:P.stoodInHeld o=false){xs ys:List Value}{off:Nat}{r:Bool}(he:eqP P o t xs ys off=some r):∃a b,(part t xs.toArray off).run P w=.ok a w/\(part t ys.toArray off).run P w=.ok b w/\(Op.equalIn (d+2) t a b).run P w=.ok r w:=by
 unfold eqP at he;split at he
 ·rename_i gs ht
  split at he
  ·rename_i hto
   have hto:=Nat.eq_of_beq_eq_true hto;subst hto;have hs:=ho;split at he
   ·rename_i k hk
    split at he
    ·rename_i as ha
     split at he
     ·rename_i bs hb
      cases hi:P.info? t with
      |none=>rw[hi]at hk;cases hk
      |some i0=>
       have hsz:i0.size=k:=by rw[hi]at hk;simpa using hk
       have hf:P.fieldsOf t=gs:=by simp[Program.fieldsOf,ht]
       have hag:=a3F (P:=P) w ht rfl;refine⟨.agg as.toArray,.agg bs.toArray,?_,?_,?_⟩
       ·simp[part,hag,sizeOf,typeInfo,hi,hsz,b5d ha]
       ·simp[part,hag,sizeOf,typeInfo,hi,hsz,b5d hb]
       ·rw[run_equalIn_struct (P:=P) w (d+1) t as.toArray bs.toArray (by rw[hf];exact ht) hs,hf]
        exact a7n w d as bs he
     ·cases he
    ·cases he
   ·cases he
  ·cases he
 ·rename_i ds _ ht
  split at he
  ·rename_i hp
   split at he
   ·rename_i a ha
    split at he
    ·rename_i b hb
     refine⟨a,b,?_,?_,b7Y w (d:=d+1) ht he⟩
     ·simp[part,O5 w ht hp,ha]
     ·simp[part,O5 w ht hp,hb]
    ·cases he
   ·cases he
  ·cases he
 ·cases he
theorem b1C(w:World)(d:Nat){o:TypeId}(ho:P.stoodInHeld o=false)(xs ys:List Value):∀{fs:List Field}{r:Bool},b7S P o xs ys fs=some r->(Op.eqFields (d+2) xs.toArray ys.toArray fs).run P w=.ok r w
 | [],r,he=>by cases he;simp[Op.eqFields]
 |f::fs,r,he=>by
  unfold b7S at he;split at he
  ·rename_i c hc
   split at he
   ·rename_i q hq
    split at he
    ·rename_i h7
     cases he;have h8 : f.name ≠ "_" := by simpa using h7
     have ih:=b1C w d ho xs ys hq;obtain⟨a,b,ea,eb,e5⟩:=c5X (P:=P) w d ho hc;simp only[Op.eqFields,if_pos h8,Sem.run_bind];rw[ea,Result.andThen_ok,eb,Result.andThen_ok,e5,Result.andThen_ok];cases c
     ·simp
     ·simpa using ih
    ·cases he
   ·cases he
  ·cases he
theorem b5y{o:TypeId}{x y:Operand}{t t':TypeId}{fs:Array Field}{as bs:List Value}{r:Bool}(ht:P.underlying t=some (.struct fs))(hs:P.stoodInHeld t=false)(hm:P.eqGuardType P.depth t=false)(ex:Ev n F x (.agg as.toArray))(ey:Ev n F y (.agg bs.toArray))
 (ho:P.stoodInHeld o=false) (hr:b7S P o as bs fs.toList=some r):PO P ⟨dst,.binOp .neq t x y t',ty,pos,after,g⟩ n F h m (.bool (!r)):=.mk λa w ha _=>by
 have hf:P.fieldsOf t=fs:=by simp[Program.fieldsOf,ht]
 have e1:=run_equalIn_struct (P:=P) w 9999 t as.toArray bs.toArray (by rw[hf];exact ht) hs;rw[hf,b1C w 9997 ho as bs hr]at e1;simp[execOp,ex a ha,ey a ha,run_eqGuard_agg w _ t _ _ _ _ hm,run_neq_struct,e1]
end
end
end Go.Eng
namespace Go.Sx
section
open Go.Eng Go.Pc Go
open Go.Xp hiding B
open Go.Ty (Ty Vr Tok)
open Go.Ly (Rw P3)
open Go.Lx (lexO J6)
theorem b08(s:B):(lexO s).1.length<=256/\∀x∈(lexO s).1,J6 x=true/\(-2147483648<=x.n/\x.n<=2147483647):=by
 obtain⟨l,z,e,h⟩:∃l z e,lexO s=(l,z,e):=⟨_,_,_,rfl⟩;rw[h];by_cases he:e=0
 ·subst he
  obtain⟨h1,h2,-⟩:=Go.Lx.lexO_ok h;have h3:=Go.Lx.lx_len s 0 l h2;exact⟨by show l.length<=256;omega,Go.Lx.lx_may s 0 l h2 (by omega)⟩
 ·have h1:=Go.Lx.lexO_no h he
  subst h1;exact⟨Nat.zero_le _,λx hx=>(List.not_mem_nil hx).elim⟩
theorem c4j(s:B):∀t∈(lexO s).1,t.text.length<=140737488355328:=λt ht=>by have:=Go.Lx.may_len ((b08 s).2 t ht).1;omega
structure Pz where
 bp:Nat
 ra:Option Addr
 rc:Nat
 R:List Rw
structure Pok(m:View)(z:Pz):Prop where
 rd:Rd m [] z.ra z.R.length z.rc 3 (fl P3 z.R)
 ok:z.R.length<=2048/\∀x∈z.R,0<=x.depth/\x.depth<=32/\x.text.length<=256
 ne:∀x∈z.R,(lexO x.text).2.2=0->(lexO x.text).1≠[]
theorem b2x(q:UInt8->Bool):∀(l:B){c:UInt8}{r:B},l.dropWhile q=c::r->q c=false
 |x::l,c,r,h=>by
  unfold List.dropWhile at h;split at h
  ·exact b2x q l h
  ·cases h;assumption
theorem c7l{s:B}(h:Go.Ly.validP s=true)(he:(lexO s).2.2=0):(lexO s).1≠[]:=by
 obtain⟨h1,-,h2,-⟩:=Go.Ly.validP_spec h;obtain⟨l,z,e,hl⟩:∃l z e,lexO s=(l,z,e):=⟨_,_,_,rfl⟩;rw[hl]at he⊢;obtain rfl:e=0:=he;obtain⟨-,h3,-⟩:=Go.Lx.lexO_ok hl;cases s with
 |nil=>exact absurd rfl h1
 |cons c r=>
  have hc:c≠32:=by have h4:=b2x (·==32) (Lib.trimRightB (c::r) 32) (c:=c) (r:=r) h2;simpa using h4
  rintro rfl;by_cases hn:(Go.Lx.tok (c::r)).2=0
  ·rw[Go.Lx.lx_bad hc hn]at h3;cases h3
  ·rw[Go.Lx.lx_tok hc hn]at h3
   cases hx:Go.Lx.lx ((c::r).drop (Go.Lx.tok (c::r)).2) (0+(Go.Lx.tok (c::r)).2)with
   |ok m=>rw[hx]at h3;cases h3
   |error e=>rw[hx]at h3;cases h3
theorem Pok.of{m:View}{z:Pz}(hr:Rd m [] z.ra z.R.length z.rc 3 (fl P3 z.R))(h:Go.Ly.mayP z.R=true):Pok m z:=
 ⟨hr,Go.Ly.mayP_all h,λx hx=>by
  unfold Go.Ly.mayP at h;split at h
  ·cases h
  ·exact c7l (Go.Ly.mayA_all h x hx).2.2⟩
theorem L2{α β:Type}(x:α)(ts:List Tok)(i:Nat)(f:α->List Tok->PE β):K9 (.ok (x,ts)) i f=f x ts:=rfl
theorem S2{α β:Type}(x:α)(i:Nat)(f:α->Nat->PE β):V0 (.ok (x,i)) f=f x i:=rfl
theorem P9{β:Type}{ts:List Tok}{i:Nat}{f:Nat->PE β}(h:ts=[]):I0 ts i f=f (i+1):=by subst h;rfl
theorem P7{β:Type}{ts:List Tok}{i:Nat}{f:Nat->PE β}(h:ts≠[]):I0 ts i f=.error (110,i):=by cases ts with|nil=>exact absurd rfl h|cons=>rfl
theorem a3m{β:Type}{k:Int}{s:B}{ts:List Tok}{i:Nat}{f:List Tok->PE β}(h:isM k s ts=true):a0j k s ts i f=f ts.tail:=by unfold a0j;rw[h];rfl
theorem a3x{β:Type}{k:Int}{s:B}{ts:List Tok}{i:Nat}{f:List Tok->PE β}(h:isM k s ts=false):a0j k s ts i f=.error (110,i):=by unfold a0j;rw[h];rfl
theorem a4X{β:Type}{R:List Rw}{d:Int}{i:Nat}{ts:List Tok}{f:List Tok->PE β}(h:a2c R d i=.ok ts):a2k R d i f=f ts:=by unfold a2k;rw[h]
theorem M0{β:Type}{R:List Rw}{d:Int}{i:Nat}{e:Int×Nat}{f:List Tok->PE β}(h:a2c R d i=.error e):a2k R d i f=.error e:=by unfold a2k;rw[h]
theorem a2E{m:View}{z:Pz}{d:Int}{i:Nat}{ts:List Tok}(hz:Pok m z)(h:a2c z.R d i=.ok ts):(i<z.R.length/\0<=d/\d<=32)/\∃x,z.R[i]?=some x/\x.depth=d/\ts=(lexO x.text).1:=by
 unfold a2c at h;cases hx:z.R[i]? with
 |none=>rw[hx]at h;cases h
 |some x=>
  rw[hx]at h;simp only at h;split at h
  ·cases h
  ·split at h
   ·cases h
   ·rename_i hd
    have hd:x.depth=d:=Decidable.byContradiction hd;cases h;have h1:=hz.ok.2 x (List.mem_of_getElem? hx);exact⟨⟨(List.getElem?_eq_some_iff.1 hx).1,by omega,by omega⟩,x,rfl,hd,rfl⟩
theorem c5H{m:View}{z:Pz}{d:Int}{i:Nat}{ts:List Tok}(hz:Pok m z)(h:a2c z.R d i=.ok ts):0<ts.length:=by
 unfold a2c at h;cases hx:z.R[i]? with
 |none=>rw[hx]at h;cases h
 |some x=>
  rw[hx]at h;simp only at h;split at h
  ·cases h
  ·rename_i he
   split at h
   ·cases h
   ·cases h
    have h1:=hz.ne x (List.mem_of_getElem? hx) (Decidable.byContradiction he);exact List.length_pos_iff.2 h1
theorem a4g{R:List Rw}{d:Int}{i:Nat}(h:R.length<=i):a2c R d i=.error (110,i):=by unfold a2c;rw[List.getElem?_eq_none h]
theorem a8Q{R:List Rw}{d:Int}{i:Nat}(h:S4 R d i=true):i<R.length:=by
 unfold S4 at h;cases hx:R[i]? with
 |none=>rw[hx]at h;cases h
 |some x=>exact(List.getElem?_eq_some_iff.1 hx).1
theorem b9w{R:List Rw}{rec:Int->Bool->Nat->PE Pr}{row:List Tok->E Gu}{least most:Nat}{d:Int}{k:Nat}{acc:List Gu}{i:Nat}(hk:R.length<=i+k)(hc:acc.length<least\/(acc.length<most/\S4 R d i=true)) :
 a1f R rec row least most d k acc i=a2k R d i λts=>K9 (row ts) i λg r=>I0 r i λi=>V0 (rec (d+1) false i) λx i=>a1f R rec row least most d (k-1) (acc++[b8K g x]) i:=by
 cases k with
 |zero=>
  have hl:acc.length<least:=hc.elim id λh=>absurd (a8Q h.2) (by omega)
  rw[M0 (a4g (by omega))];unfold a1f;rw[if_pos hl]
 |succ k=>
  conv=>lhs;unfold a1f
  rw[if_pos hc];rfl
theorem b5w{R:List Rw}{rec:Int->Bool->Nat->PE Pr}{row:List Tok->E Gu}{least most:Nat}{d:Int}{k:Nat}{acc:List Gu}{i:Nat}(hc:¬(acc.length<least\/(acc.length<most/\S4 R d i=true))) :
 a1f R rec row least most d k acc i=.ok (acc,i):=by
 cases k with
 |zero=>unfold a1f;rw[if_neg λh=>hc (.inl h)]
 |succ k=>unfold a1f;rw[if_neg hc]
theorem c1n{R:List Rw}{rec:Int->Bool->Nat->PE Pr}{d:Int}{k:Nat}{acc:List Pr}{i:Nat}(hk:R.length<=i+k)(hc:S4 R d i=true) :
 a3L R rec d k acc i=V0 (rec d false i) λx i=>a3L R rec d (k-1) (acc++[x]) i:=by
 cases k with
 |zero=>exact absurd (a8Q hc) (by omega)
 |succ k=>
  conv=>lhs;unfold a3L
  rw[if_pos hc];rfl
theorem b6Q{R:List Rw}{rec:Int->Bool->Nat->PE Pr}{d:Int}{k:Nat}{acc:List Pr}{i:Nat}(hc:S4 R d i=false):a3L R rec d k acc i=.ok (acc,i):=by
 cases k with
 |zero=>rfl
 |succ k=>unfold a3L;rw[if_neg (by rw[hc];decide)]
theorem b8X{R:List Rw}{rec:Int->Bool->Nat->PE Pr}{d:Int}{k:Nat}{ns:List Int}{acc:List Pr}{i:Nat}(hk:R.length<=i+k)(hc:acc.length=0\/(acc.length<8/\S4 R (d+1) i=true)) :
 a0A R rec d k ns acc i=a2k R (d+1) i λts=>a0j 2 [80,82,79,67,69,83,83,79,82] ts i λr=>match b8o r with
  |some n=>V0 (rec (d+2) false (i+1)) λx i=>a0A R rec d (k-1) (ns++[n]) (acc++[x]) i
  |none=>.error (110,i):=by
 cases k with
 |zero=>
  have hl:acc.length=0:=hc.elim id λh=>absurd (a8Q h.2) (by omega)
  rw[M0 (a4g (by omega))];unfold a0A;rw[if_pos hl]
 |succ k=>
  conv=>lhs;unfold a0A
  rw[if_pos hc];rfl
theorem b4z{R:List Rw}{rec:Int->Bool->Nat->PE Pr}{d:Int}{k:Nat}{ns:List Int}{acc:List Pr}{i:Nat}(hc:¬(acc.length=0\/(acc.length<8/\S4 R (d+1) i=true))) :
 a0A R rec d k ns acc i=.ok ((ns,acc),i):=by
 cases k with
 |zero=>unfold a0A;rw[if_neg λh=>hc (.inl h)]
 |succ k=>unfold a0A;rw[if_neg hc]
theorem c0y{R:List Rw}{d:Int}{k:Nat}{acc:List Vr}{i:Nat}(hk:R.length<=i+k)(hc:acc.length=0\/S4 R (d+2) i=true) :
 a2i R d k acc i=a2k R (d+2) i λts=>K9 (a2N ts) i λv r=>if Go.Ty.mayPr true (acc++[v])then I0 r i λi=>a2i R d (k-1) (acc++[v]) i else .error (110,i):=by
 cases k with
 |zero=>
  have hl:acc.length=0:=hc.elim id λh=>absurd (a8Q h) (by omega)
  rw[M0 (a4g (by omega))];unfold a2i;rw[if_pos hl]
 |succ k=>
  conv=>lhs;unfold a2i
  rw[if_pos hc];rfl
theorem b6k{R:List Rw}{d:Int}{k:Nat}{acc:List Vr}{i:Nat}(hc:¬(acc.length=0\/S4 R (d+2) i=true)):a2i R d k acc i=.ok (acc,i):=by
 cases k with
 |zero=>unfold a2i;rw[if_neg λh=>hc (.inl h)]
 |succ k=>unfold a2i;rw[if_neg hc]
theorem b8Z{R:List Rw}{rec:Int->Bool->Nat->PE Pr}{d:Int}{top:Bool}{ts:List Tok}{i:Nat}{t:Tok}{f:Int->List Tok->Nat->PE Pr}(h0:ts[0]?=some t)(hw:a5c R rec t.text=some f)(hc:t.kind=2/\(top=true\/t.text≠[80,76,65,67,69,68])):a8k R rec d top ts i=f d ts.tail i:=by
 cases ts with
 |nil=>cases h0
 |cons u r=>cases h0;unfold a8k;simp only[hw];rw[if_pos hc];rfl
theorem b4T{R:List Rw}{rec:Int->Bool->Nat->PE Pr}{d:Int}{top:Bool}{ts:List Tok}{i:Nat}{t:Tok}(h0:ts[0]?=some t)(hc:a5c R rec t.text=none\/¬(t.kind=2/\(top=true\/t.text≠[80,76,65,67,69,68]))):a8k R rec d top ts i=a5R R rec d ts i:=by
 cases ts with
 |nil=>cases h0
 |cons u r=>
  cases h0;unfold a8k;cases hw:a5c R rec t.text with
  |none=>simp only[hw]
  |some f=>
   simp only[hw];rcases hc with hc|hc
   ·rw[hc]at hw;cases hw
   ·rw[if_neg hc]
structure Gs(m:View)(h:List Res)(a:Option Addr)(c:Nat)(l:List Gu):Prop where
 rd:Rd m h a l.length c 23 (fl guE l)
 ok:∀g∈l,GOk m h g
 sub:∀g∈l,∀x∈g.bl,POk m h x
structure Ls(m:View)(h:List Res)(a:Option Addr)(c:Nat)(l:List Pr):Prop where
 rd:Rd m h a l.length c 42 (fl prE l)
 ok:∀x∈l,POk m h x
structure Ns(m:View)(h:List Res)(s:Sli Int):Prop where
 rd:Rd m h s.a s.l.length s.c 1 (fl a3I s.l)
 ok:∀x∈s.l,-9223372036854775808<=x/\x<=9223372036854775807
structure Ss(m:View)(h:List Res)(s:Sp):Prop where
 ok:SOk m h s
 sub:∀x∈s.bl,POk m h x
structure Rs(m:View)(h:List Res)(r:Rp):Prop where
 n:r.name.length<=Big
 b:EOk m h r.base
 c:EOk m h r.count
variable{m:View}{h h':List Res}
theorem Gs.mono{a:Option Addr}{c:Nat}{l:List Gu}(q:Gs m h a c l)(s:h.Sublist h'):Gs m h' a c l:=⟨q.rd.mono Vl s,λg hg=>(q.ok g hg).mono s,λg hg x hx=>(q.sub g hg x hx).mono s⟩
theorem Ls.mono{a:Option Addr}{c:Nat}{l:List Pr}(q:Ls m h a c l)(s:h.Sublist h'):Ls m h' a c l:=⟨q.rd.mono Vl s,λg hg=>(q.ok g hg).mono s⟩
theorem Ns.mono{l:Sli Int}(q:Ns m h l)(s:h.Sublist h'):Ns m h' l:=⟨q.rd.mono Vl s,q.ok⟩
theorem Ss.mono{x:Sp}(q:Ss m h x)(s:h.Sublist h'):Ss m h' x:=⟨q.ok.mono s,λy hy=>(q.sub y hy).mono s⟩
theorem Rs.mono{r:Rp}(q:Rs m h r)(s:h.Sublist h'):Rs m h' r:=⟨q.n,q.b.mono s,q.c.mono s⟩
theorem a1I(m:View)(h:List Res):Gs m h none 0 []:=⟨Rd.nilF guE 23 m h,λ_ hx=>(List.not_mem_nil hx).elim,λ_ hx=>(List.not_mem_nil hx).elim⟩
theorem a4y(m:View)(h:List Res):Ls m h none 0 []:=⟨Rd.nilF prE 42 m h,λ_ hx=>(List.not_mem_nil hx).elim⟩
theorem a0I(m:View)(h:List Res):Ns m h B0:=⟨Rd.nilF a3I 1 m h,λ_ hx=>(List.not_mem_nil hx).elim⟩
theorem I4(m:View)(h:List Res):LOk m h B0:=⟨Rd.nilF exE 6 m h,λ_ hx=>(List.not_mem_nil hx).elim⟩
theorem b9d(m:View)(h:List Res):TOk m h A2:=.mk (Rd.nilF exE 6 m h) (λ_ hx=>by cases hx)
theorem a8c(m:View)(h:List Res):EOk m h A2:=⟨b9d m h,.mk (by decide) (by decide) (by decide) (by decide) (Nat.zero_le _) λ_ hx=>(List.not_mem_nil hx).elim⟩
theorem a0g(m:View)(h:List Res):Rs m h F2:=⟨Nat.zero_le _,a8c m h,a8c m h⟩
theorem a9d(m:View)(h:List Res):Go.Ty.PrOk m h none 0 0 []:=⟨Rd.nilF Go.Ty.encV 2 m h,λ_ hx=>(List.not_mem_nil hx).elim,λ_ hx=>(List.not_mem_nil hx).elim⟩
theorem V7(m:View)(h:List Res):Ss m h C3:=
 ⟨⟨by decide,⟨by decide,by decide,by decide,Nat.zero_le _⟩,Rd.nilF Go.Lx.encB 1 m h,λ_ hx=>(List.not_mem_nil hx).elim,a8c m h,a9d m h,λ_ hx=>(List.not_mem_nil hx).elim,Rd.nilF foE 6 m h,λ_ hx=>(List.not_mem_nil hx).elim,Rd.nilF prE 42 m h⟩,λ_ hx=>(List.not_mem_nil hx).elim⟩
theorem a6j{k:Int}{nm:B}{ch:Ex}{tg ex:Sli Ex}{rep:Rp}{ga:Option Addr}{gc:Nat}{gl:List Gu}{la:Option Addr}{lc:Nat}{ll:List Pr}{pn:Sli Int}{sp:Sp}(hk:0<=k/\k<=255)(hn:nm.length<=Big)(hch:EOk m h ch)(ht:LOk m h tg)(he:LOk m h ex)
 (hr:Rs m h rep) (hg:Gs m h ga gc gl) (hl:Ls m h la lc ll) (hp:Ns m h pn) (hs:Ss m h sp):POk m h (.mk k nm ch tg ex rep ga gc gl la lc ll pn sp):=
 .mk ⟨hk,hn,hch,ht,he,hr.n,hr.b,hr.c,hg.rd,hg.ok,hl.rd,hp.rd,hp.ok,hs.ok⟩ λx hx=>by
  cases hx with
  |l hx=>exact hl.ok x hx
  |s hx=>exact hs.sub x hx
  |g hq hx=>exact hg.sub _ hq x hx
end
section
open Go.Eng Go.Pc Go
open Go.Xp hiding B
open Go.Ty (Ty Vr Tok)
theorem c1W(e:Ex):C6 (C6 e)=C6 e:=by
 refine Ex.ind (p:=λe=>C6 (C6 e)=C6 e) (λe ih=>?_) e;rw[a0w e,a0w];show Ex.mk _ _ _ _ _ _ _ ((e.l.map C6).map C6)=_;rw[List.map_map];congr 1
 exact List.map_congr_left λx hx=>ih x hx
theorem a1z(x w:Ex):E5 (C6 x) w=E5 x w:=by rw[Bool.eq_iff_iff,a0O,a0O,c1W]
theorem c2d(x w:Ex):E5 x (C6 w)=E5 x w:=by rw[Bool.eq_iff_iff,a0O,a0O,c1W]
theorem a4q(e:Ex):H4 (C6 e)=H4 e:=a1z e A2
theorem b5E:∀(l pre:List Vr),Go.Ty.mayIn (pre.map a0p) (l.map a0p)=Go.Ty.mayIn pre l
 | [],_=>rfl
 |v::r,pre=>by
  have h1:Go.Ty.badV (pre.map a0p) (a0p v)=Go.Ty.badV pre v:=by unfold Go.Ty.badV Go.Ty.tagIn;rw[List.any_map];rfl
  have h2:=b5E r (pre++[v]);rw[List.map_append]at h2;show(if Go.Ty.badV (pre.map a0p) (a0p v)then false else Go.Ty.mayIn (pre.map a0p++[a0p v]) (r.map a0p))=if Go.Ty.badV pre v then false else Go.Ty.mayIn (pre++[v]) r
  rw[h1,<-h2];rfl
theorem a9M(cs:Bool)(l:List Vr):Go.Ty.mayPr cs (l.map a0p)=Go.Ty.mayPr cs l:=by
 unfold Go.Ty.mayPr;rw[List.length_map];have h0:(Go.Ty.hdV (l.map a0p)).tag=(Go.Ty.hdV l).tag/\(Go.Ty.hdV (l.map a0p)).items=(Go.Ty.hdV l).items:=by cases l<;>exact⟨rfl,rfl⟩
 rw[h0.1,h0.2];have h1:=b5E l [];rw[List.map_nil]at h1;rw[h1]
theorem a5t{α β:Type}(l:List α)(f:α->β)(a b:Int)(q:β->Bool)(r:α->Bool)(h:∀x,q (f x)=r x):E7 (l.map f) a b q=E7 l a b r:=by
 unfold E7;rw[List.length_map,List.any_map];congr 2
 congr 1
 funext x
 simp[h]
theorem b8z{α:Type}(q:α->α->Bool)(f:α->α)(h:∀x y,q (f x) (f y)=q x y):∀(l r:List α),eqL q (l.map f) (r.map f)=eqL q l r
 | [],[]=>rfl
 | [],_::_=>rfl
 |_::_,[]=>rfl
 |x::l,y::r=>by
  show(q (f x) (f y)&&eqL q (l.map f) (r.map f))=_;rw[h,b8z q f h l r];rfl
theorem X9(s:Sp):stS s=spM s.k s.ty s.names.l (C6 s.e) s.cs (s.vs.l.map a0p) s.fs.l (s.bl.map stP):=by cases s;rw[stS,a4U];rfl
theorem b2o(a b:Sp):J9 (stS a) (stS b)=J9 a b:=by rw[X9,X9];unfold J9;show((((((((a.k==b.k)&&Go.Ty.eqT a.ty b.ty)&&(a.names.l==b.names.l))&&E5 (C6 a.e) (C6 b.e))&&(a.cs==b.cs))&&eqL P0 (a.vs.l.map a0p) (b.vs.l.map a0p))&&eqL a0s a.fs.l b.fs.l)&&(((a.bl.map stP).length:Int)==(b.bl.map stP).length))=_;rw[a1z,c2d,b8z P0 a0p (λ_ _=>rfl),List.length_map,List.length_map]
theorem c4f(s:Sp):a0x (stS s)=stS (a0x s):=by
 rw[X9 s];unfold a0x;show(if s.k=1 then _ else if s.k=2 then _ else if s.k=3 then _ else if s.k=4 then _ else _)=_;split
 ·rw[X9];rfl
 ·split
  ·rw[X9];rfl
  ·split
   ·rw[X9];rfl
   ·split
    ·rw[X9];rfl
    ·rw[X9];rfl
theorem c4S(s:Sp):a1i (stS s)=a1i s:=by rw[X9 s];unfold a1i;show(if s.k=1 then Go.Ty.may s.ty else if s.k=2 then X2 s.ty&&F8 (C6 s.e)else if s.k=3 then X2 s.ty&&F5 (C6 s.e)else if s.k=4 then Go.Ty.mayPr s.cs (s.vs.l.map a0p)else(((s.bl.map stP).length:Int)==1)&&E7 s.fs.l 0 8 foP)=_;rw[U6,a0C,a9M,List.length_map]
theorem c6Q(s:Sp):spP (stS s)=spP s:=by
 have h1:(stS s).k=s.k:=by rw[X9];rfl
 have h2:(stS s).names.l=s.names.l:=by rw[X9];rfl
 unfold spP;rw[h1,h2,c4S,c4f,b2o]
end
end Go.Sx
namespace Go.Eng
section
open Go Go.RowKit
def b04(es:Array MapEntry)(kv:List (List UInt8×Value)):Prop:=es.toList.map (λx=>(x.key,x.val))=kv.map λp=>(str p.1,p.2)
theorem b04.nil:b04 #[] []:=rfl
def a2m(n:List UInt8):List (List UInt8×Value)->Option Value
 | []=>none
 |(k,v)::r=>if n=k then some v else a2m n r
theorem b7x{n:List UInt8}:∀(l:List MapEntry)(kv:List (List UInt8×Value))(i:Nat),l.map (λx=>(x.key,x.val))=kv.map (λp=>(str p.1,p.2)) ->
 (a2m n kv=none/\Instr.findNow .string (str n) l i=some none)\/∃j v,a2m n kv=some v/\Instr.findNow .string (str n) l i=some (some (i+j,v))
 | [],[],_,_=>.inl ⟨rfl,rfl⟩
 | [],_::_,_,h=>by cases h
 |_::_,[],_,h=>by cases h
 |e::l,(k,v)::kv,i,h=>by
  simp only[List.map_cons,List.cons.injEq,Prod.mk.injEq]at h;obtain⟨⟨hk,hv⟩,h⟩:=h;by_cases hn:n=k
  ·subst hn
   refine .inr ⟨0,v,by simp[a2m],?_⟩;simp[Instr.findNow,hk,Instr.sameNow,b2N,hv]
  ·have hb:((⟨n.toArray⟩:ByteArray)==⟨k.toArray⟩)=false:=c5K hn
   have e1:Instr.findNow .string (str n) (e::l) i=Instr.findNow .string (str n) l (i+1):=by simp[Instr.findNow,hk,Instr.sameNow,hb]
   have e2:a2m n ((k,v)::kv)=a2m n kv:=by simp[a2m,hn]
   rw[e1,e2];rcases b7x l kv (i+1) h with h1|⟨j,v,h1,h2⟩
   ·exact .inl h1
   ·exact .inr ⟨j+1,v,h1,by rw[h2];congr 3;omega⟩
section
variable{P:Program}{ops:Array Oper}{Q:Exit->Act->World->Prop}{n:Cx}{F:Fm}{h h':List Res}{m:View}{rest:List Oper}
variable{ty:TypeId}{pos:String}{after:Array Edge}{dst:Option Tmp}{g:Option (Nat×Bool)}{d:Nat}
theorem b4w(w:World){t kt et:TypeId}{b:Nat}{es:Array MapEntry}{clock:Nat}{kv:List (List UInt8×Value)}{x:List UInt8}{v:Value}(ht:P.underlying t=some (.map kt et))(hk:P.underlying kt=some (.string))(hM:b04 es kv)(hx:a2m x kv=none)
 (hb:w.heap[b]?=some (.map es clock)):∃es' clock',b04 es' (kv++[(x,v)])/\(Instr.mapUpdate t (.map (some b)) (str x) v).run P w=.ok () { w with heap:=w.heap.setIfInBounds b (.map es' clock') }:=by
 have hck:(Instr.checkKey false 10000 kt (str x)).run P w=.ok () w:=by unfold Instr.checkKey;simp[run_underlying hk]
 have hget:(getObj b).run P w=.ok (.map es clock) w:=by simp[getObj,Sem.run,hb]
 have hset:∀o,(setObj b o).run P w=.ok () { w with heap:=w.heap.setIfInBounds b o }:=λo=>by simp[setObj,Sem.run,hb]
 rcases b7x (n:=x) es.toList kv 0 hM with⟨h1,h2⟩|⟨j,v,h1,h2⟩
 ·refine⟨es.push { key:=str x,val:=v,born:=clock },clock+1,?_,?_⟩
  ·unfold b04 at hM⊢
   simp[hM]
  ·simp[Instr.mapUpdate,run_underlying ht,hget,hck,Instr.findKey,run_underlying hk,h2,hset]
 ·rw[hx]at h1;cases h1
theorem T9{op:Op}{x y z:Operand}{t kt et:TypeId}{b:Nat}{es:Array MapEntry}{clock:Nat}{kv:List (List UInt8×Value)}{i:List UInt8}{v:Value}{hq:Array MapEntry->Nat->List Res}(hop:op=.mapUpdate t x y z\/op=.insert t x y z)(ht:P.underlying t=some (.map kt et))(hk:P.underlying kt=some (.string))(hM:b04 es kv)(hi:a2m i kv=none)
 (ex:Ev n F x (.map (some b))) (ey:Ev n F y (str i)) (ez:Ev n F z v) (u:∀es' c',Upd h (.pt b (.map es clock)) (.pt b (.map es' c')) (hq es' c')) (k:∀es' c',b04 es' (kv++[(i,v)])->WL P ops Q n rest F (hq es' c') m) :
 WL P ops Q n (⟨none,op,ty,pos,after,none⟩::rest) F h m:=.mk λa w ha hs=>by
 obtain⟨es',c',h1,h2⟩:=b4w (P:=P) w (x:=i) (v:=v) ht hk hM hi (hs.ok _ (u es clock).mem);have hrun:(execOp a.eval ⟨none,op,ty,pos,after,none⟩).run P w=.ok .skip { w with heap:=w.heap.setIfInBounds b (.map es' c') }:=by rcases hop with rfl|rfl<;>simp[execOp,ex a ha,ey a ha,ez a ha,h2]
 exact J4 rfl (a9g hrun (k es' c' h1 _ _ ha (hs.setObj (u es' c'))))
theorem b7d{x y:Operand}{t kt et:TypeId}{b:Nat}{es:Array MapEntry}{clock:Nat}{kv:List (List UInt8×Value)}{i:List UInt8}{z:Value}(ht:P.underlying t=some (.map kt et))(hk:P.underlying kt=some (.string))(hz:(P.info? et).bind (·.zero)=some z)(hM:b04 es kv)
 (ex:Ev n F x (.map (some b))) (ey:Ev n F y (str i)) (hm:Res.pt b (.map es clock)∈h):PO P ⟨dst,.lookup t x y true,ty,pos,after,g⟩ n F h m (.tuple #[(a2m i kv).getD z,.bool (a2m i kv).isSome]):=.mk λa w ha hs=>by
 have hb:w.heap[b]?=some (.map es clock):=hs.ok _ hm;have hck:(Instr.checkKey es.isEmpty 10000 kt (str i)).run P w=.ok () w:=by unfold Instr.checkKey;simp[run_underlying hk]
 have hget:(getObj b).run P w=.ok (.map es clock) w:=by simp[getObj,Sem.run,hb]
 have hzr:(zeroValue et).run P w=.ok z w:=by
  cases hi:P.info? et with
  |none=>simp[hi]at hz
  |some j=>
   have:j.zero=some z:=by simpa [hi]using hz
   simp[zeroValue,typeInfo,hi,this]
 rcases b7x (n:=i) es.toList kv 0 hM with⟨h1,h2⟩|⟨j,v,h1,h2⟩
 ·simp[execOp,ex a ha,ey a ha,Instr.lookup,run_underlying ht,hget,hck,Instr.findKey,run_underlying hk,h1,h2,hzr]
 ·simp[execOp,ex a ha,ey a ha,Instr.lookup,run_underlying ht,hget,hck,Instr.findKey,run_underlying hk,h1,h2]
theorem c8G{fn:Func}{ex:Exit}{m0:View}{R:Value->View->List Res->Prop}{r r':ResultVar}{v v':Value}{q:FuncId}{cap:List Value}(hex:ex=.ret\/ex=.normal)(hds:n.ds=[b0S q cap])(he:∀as w,(callFunc q as).run P w=.ok (.enter q as) w)
 (hd:b0R P q cap .returning m h h) (hfn:fn.results=#[r,r']) (x1:RV P n F h m r v) (x2:RV P n F h m r' v') (hle:m0.le m) (hsub:h'.Sublist h) (hR:R (.tuple #[v,v']) m h') :
 ∀a w,Fr n F a->St m h w->bodyPostD P fn (RQ m0 R) ex a w:=λa w ha hs=>by
 have key:Leaves P fn a.tmps (RQ m0 R) a.defers .returning w:=by
  rw[ha.d,hds];refine b2U he (by simp) hd hs λw' hs'=>⟨.tuple #[v,v'],?_,_,m,h',rfl,hle,hs'.sub hsub,hR⟩
  have h1:=x1.e a w' ha hs';have h2:=x2.e a w' ha hs';simp[a0E,hfn,h1,h2]
 rcases hex with rfl|rfl<;>exact key
theorem c9f{fn:Func}{m0:View}{R:Value->View->List Res->Prop}{r r':ResultVar}{v v' u:Value}{q:FuncId}{cap:List Value}{h2:List Res}(hds:n.ds=[b0S q cap])(he:∀as w,(callFunc q as).run P w=.ok (.enter q as) w)
 (hd:b0R P q cap (.panicking [{ v:=u,recovered:=false }]) m h h2) (hfn:fn.results=#[r,r']) (x1:RV P n F h2 m r v) (x2:RV P n F h2 m r' v') (hle:m0.le m) (hsub:h'.Sublist h2) (hR:R (.tuple #[v,v']) m h') :
 ∀a w,Fr n F a->St m h w->bodyPostD P fn (RQ m0 R) (.panic [{ v:=u,recovered:=false }]) a w:=λa w ha hs=>by
 show Leaves P fn a.tmps (RQ m0 R) a.defers (.panicking [{ v:=u,recovered:=false }]) w;rw[ha.d,hds];refine b2U he (by simp) hd hs λw' hs'=>⟨.tuple #[v,v'],?_,_,m,h',rfl,hle,hs'.sub hsub,hR⟩
 have h1:=x1.e a w' ha hs';have h2:=x2.e a w' ha hs';simp[a0E,hfn,h1,h2]
end
end
end Go.Eng
namespace Go.Sx
section
open Go.Eng Go.Pc Go
open Go.Xp hiding B
open Go.Ty (Ty Vr Tok)
open Go.Ly (Rw)
def Er{α:Type}(r:E α):Prop:=∀e,r=.error e->e=110
theorem a0k{α:Type}{x:α×List Tok}:Er (.ok x):=nofun
theorem a6o{α:Type}:Er (.error 110:E α):=λe h=>by cases h;rfl
theorem U8{α β:Type}{r:E α}{f:α->List Tok->E β}(h:Er r)(hf:∀x ts,Er (f x ts)):Er (S3 r f):=by
 cases r with
 |ok x=>exact hf x.1 x.2
 |error e=>rw[h e rfl];exact a6o
theorem a5O{β:Type}{k:Int}{s:B}{ts:List Tok}{f:List Tok->E β}(h:∀r,Er (f r)):Er (a0P k s ts f):=by
 unfold a0P;split
 ·exact h _
 ·exact a6o
theorem a1U{α:Type}{c:Prop}[Decidable c]{a b:E α}(ha:Er a)(hb:Er b):Er (if c then a else b):=by
 split
 ·exact ha
 ·exact hb
theorem a2s(ts:List Tok):Er (a0i ts):=by rw[b4A];exact a1U a0k a6o
theorem Y2(ts:List Tok):Er (P5 ts):=by rw[b5R];exact a1U a0k a6o
theorem a5M(ts:List Tok):Er (N5 ts):=by rw[a8z];exact a1U (U8 (Y2 ts) λ_ _=>a1U a0k a6o) a6o
theorem b2H(ts:List Tok):Er (b0N ts):=a1U a0k a6o
theorem b7T(ts:List Tok):Er (a6K ts):=U8 (b2H ts) λ_ _=>a1U a0k a6o
theorem b9v(ts:List Tok):Er (a5K ts):=U8 (b2H _) λ_ _=>U8 (a2s _) λ_ _=>a1U a0k a6o
theorem b8l{α:Type}{take:List Tok->E α}{sep:B}(h:∀ts,Er (take ts)):∀(n:Nat)(acc:List α)(ts:List Tok),Er (a3G take sep n acc ts)
 |0,_,_=>a1U a6o a0k
 |n+1,_,_=>a1U (U8 (h _) λ_ _=>b8l h n _ _) a0k
theorem a2P{α:Type}{take:List Tok->E α}{sep:B}{most:Nat}{ts:List Tok}(h:∀ts,Er (take ts)):Er (U0 take sep most ts):=U8 (h _) λ_ _=>b8l h _ _ _
theorem c6z{α:Type}{take:List Tok->E α}{ts:List Tok}(h:∀ts,Er (take ts)):Er (brM take ts):=a5O λ_=>a1U a0k (U8 (a2P h) λ_ _=>a5O λ_=>a0k)
theorem c0R(ts:List Tok):Er (b6X ts):=a1U a0k (U8 (a2s _) λ_ _=>a5O λ_=>U8 (Y2 _) λ_ _=>a5O λ_=>U8 (Y2 _) λ_ _=>a0k)
theorem c7n(ts:List Tok):Er (ifM ts):=U8 (Y2 _) λ_ _=>a0k
theorem b83(c:Ex)(ts:List Tok):Er (b1D c ts):=U8 (a5M _) λ_ _=>a5O λ_=>a1U (U8 (Y2 _) λ_ _=>a0k) (U8 (a2P a5M) λ_ _=>a0k)
theorem c0F(ts:List Tok):Er (a9G ts):=a1U (U8 (Y2 _) λ_ _=>a5O λ_=>a1U a0k (b83 _ _)) (b83 _ _)
theorem c7r(ts:List Tok):Er (b8M ts):=a1U a0k (U8 (a2P Y2) λ_ _=>a0k)
theorem c8A(ts:List Tok):Er (b7m ts):=U8 (a2s _) λ_ _=>a1U (U8 (a2P a5M) λ_ _=>a0k) a0k
theorem b6G(ts:List Tok):Er (a2N ts):=U8 (a2s _) λ_ _=>a1U (U8 (a2P b7T) λ_ _=>a0k) a0k
def Ep{α:Type}(r:PE α):Prop:=∀e j,r=.error (e,j)->e≠0
theorem S0{α:Type}{x:α×Nat}:Ep (.ok x):=nofun
theorem a3y{α:Type}{i:Nat}:Ep (.error (110,i):PE α):=λe j h=>by cases h;decide
theorem X8{α β:Type}{r:PE α}{f:α->Nat->PE β}(h:Ep r)(hf:∀x i,Ep (f x i)):Ep (V0 r f):=by
 cases r with
 |ok x=>exact hf x.1 x.2
 |error e=>exact λa j q=>h a j (by cases q;rfl)
theorem N8{α β:Type}{r:E α}{i:Nat}{f:α->List Tok->PE β}(h:Er r)(hf:∀x ts,Ep (f x ts)):Ep (K9 r i f):=by
 cases r with
 |ok x=>exact hf x.1 x.2
 |error e=>rw[h e rfl];exact a3y
theorem V3{α:Type}{c:Prop}[Decidable c]{a b:PE α}(ha:Ep a)(hb:Ep b):Ep (if c then a else b):=by
 split
 ·exact ha
 ·exact hb
theorem M6{β:Type}{ts:List Tok}{i:Nat}{f:Nat->PE β}(h:∀i,Ep (f i)):Ep (I0 ts i f):=V3 (h _) a3y
theorem a3o{β:Type}{k:Int}{s:B}{ts:List Tok}{i:Nat}{f:List Tok->PE β}(h:∀r,Ep (f r)):Ep (a0j k s ts i f):=V3 (h _) a3y
variable{R:List Rw}
theorem a6Y{β:Type}{d:Int}{i:Nat}{f:List Tok->PE β}(h:∀r,Ep (f r)):Ep (a2k R d i f):=by
 unfold a2k a2c;cases hx:R[i]? with
 |none=>exact a3y
 |some x=>
  simp only;split
  ·rename_i h1
   split at h1
   ·cases h1
   ·split at h1
    ·cases h1
    ·exact h _
  ·rename_i h1
   split at h1
   ·rename_i he
    cases h1;exact λa j q=>by cases q;exact he
   ·split at h1
    ·cases h1;exact a3y
    ·cases h1
theorem b3j{β:Type}{d k:Int}{s:B}{i:Nat}{f:Nat->PE β}(h:∀i,Ep (f i)):Ep (a3N R d k s i f):=a6Y λ_=>a3o λ_=>M6 h
variable{rec:Int->Bool->Nat->PE Pr}(hr:∀d t i,Ep (rec d t i))
include hr
theorem a5G{row:List Tok->E Gu}(hw:∀ts,Er (row ts)){least most:Nat}{d:Int}:∀(k:Nat)(acc:List Gu)(i:Nat),Ep (a1f R rec row least most d k acc i)
 |0,_,_=>V3 a3y S0
 |k+1,_,_=>V3 (a6Y λ_=>N8 (hw _) λ_ _=>M6 λ_=>X8 (hr _ _ _) λ_ _=>a5G hw k _ _) S0
theorem b5X{d:Int}:∀(k:Nat)(acc:List Pr)(i:Nat),Ep (a3L R rec d k acc i)
 |0,_,_=>S0
 |k+1,_,_=>V3 (X8 (hr _ _ _) λ_ _=>b5X k _ _) S0
theorem b1l{d:Int}:∀(k:Nat)(ns:List Int)(acc:List Pr)(i:Nat),Ep (a0A R rec d k ns acc i)
 |0,_,_,_=>V3 a3y S0
 |k+1,_,_,_=>V3 (a6Y λ_=>a3o λr=>by
  cases b8o r with
  |none=>exact a3y
  |some n=>exact X8 (hr _ _ _) λ_ _=>b1l k _ _ _) S0
omit hr in
theorem b1x{d:Int}:∀(k:Nat)(acc:List Vr)(i:Nat),Ep (a2i R d k acc i)
 |0,_,_=>V3 a3y S0
 |k+1,_,_=>V3 (a6Y λ_=>N8 (b6G _) λ_ _=>V3 (M6 λ_=>b1x k _ _) a3y) S0
omit hr in
theorem c1K{d:Int}{ts:List Tok}{i:Nat}:Ep (a7x R d ts i):=
 V3 (N8 (a2P b7T) λ_ _=>a3o λ_=>M6 λ_=>S0) (M6 λ_=>b3j λ_=>X8 (b1x _ _ _) λ_ _=>b3j λ_=>S0)
omit hr in
theorem b2O{s:Sp}{ts:List Tok}{i:Nat}:Ep (b4J s ts i):=a3o λ_=>V3 (M6 λ_=>S0) a3y
theorem c6r{d:Int}{ts:List Tok}{i:Nat}:Ep (a8u R rec d ts i):=
 V3 (N8 (a2s _) λ_ _=>X8 c1K λ_ _=>S0)
  (V3 (N8 (a2s _) λ_ _=>N8 (c6z b9v) λ_ _=>M6 λ_=>X8 (hr _ _ _) λ_ _=>b3j λ_=>S0)
   (V3 (N8 (b2H _) λ_ _=>N8 (a2s _) λ_ _=>a3o λ_=>N8 (Y2 _) λ_ _=>b2O)
    (V3 (N8 (b2H _) λ_ _=>N8 (a2P a2s) λ_ _=>V3 (N8 (a5M _) λ_ _=>b2O) b2O) S0)))
theorem b2c{k:Int}{d:Int}{ts:List Tok}{i:Nat}:Ep (a5x R rec k d ts i):=
 N8 (c0R _) λ_ _=>M6 λ_=>V3 (X8 (hr _ _ _) λ_ _=>S0) (X8 (b5X hr _ _ _) λ_ _=>S0)
theorem a81{k:Int}{row:List Tok->E Gu}(hw:∀ts,Er (row ts)){d:Int}{ts:List Tok}{i:Nat}:Ep (a2r R rec k row d ts i):=
 N8 (c0R _) λ_ _=>M6 λ_=>X8 (a5G hr hw _ _ _) λ_ _=>S0
theorem b1S{d:Int}{ts:List Tok}{i:Nat}:Ep (a5R R rec d ts i):=
 V3 (N8 (a2s _) λ_ _=>N8 (c6z Y2) λ_ _=>M6 λ_=>S0)
  (N8 (a2P a5M) λ_ _=>V3 (N8 (a2P Y2) λ_ _=>M6 λ_=>S0) (V3 a3y (V3 (N8 (a2P Y2) λ_ _=>M6 λ_=>S0)
   (a3o λ_=>V3 (M6 λ_=>X8 (a5G hr c8A _ _ _) λ_ _=>S0) (V3 (N8 (Y2 _) λ_ _=>M6 λ_=>S0) (N8 (a2P a5M) λ_ _=>M6 λ_=>S0))))))
theorem c5d{s:B}{f:Int->List Tok->Nat->PE Pr}(h:a5c R rec s=some f)(d:Int)(ts:List Tok)(i:Nat):Ep (f d ts i):=by
 unfold a5c at h;split at h
 ·cases h;exact M6 λ_=>S0
 split at h
 ·cases h;exact M6 λ_=>S0
 split at h
 ·cases h;exact b2c hr
 split at h
 ·cases h;exact b2c hr
 split at h
 ·cases h;exact V3 (M6 λ_=>X8 (hr _ _ _) λ_ _=>X8 (hr _ _ _) λ_ _=>S0) (a3o λ_=>a81 hr c0F)
 split at h
 ·cases h;exact a81 hr c0F
 split at h
 ·cases h;exact a81 hr c7n
 split at h
 ·cases h;exact N8 (Y2 _) λ_ _=>M6 λ_=>X8 (a5G hr c7r _ _ _) λ_ _=>S0
 split at h
 ·cases h;exact N8 (Y2 _) λ_ _=>M6 λ_=>X8 (hr _ _ _) λ_ _=>S0
 split at h
 ·cases h;exact a3o λ_=>M6 λ_=>X8 (b1l hr _ _ _ _) λ_ _=>S0
 ·cases h
theorem c3W{d:Int}{top:Bool}{ts:List Tok}{i:Nat}:Ep (a8k R rec d top ts i):=by
 cases ts with
 |nil=>exact a3y
 |cons t r=>
  unfold a8k;cases hw:a5c R rec t.text with
  |none=>simp only[hw];exact b1S hr
  |some f=>simp only[hw];exact V3 (c5d hr hw _ _ _) (b1S hr)
theorem c4B{d:Int}{top:Bool}{i:Nat}:Ep (c6v R rec d top i):=a6Y λ_=>X8 (c6r hr) λso _=>by
 cases so with
 |none=>exact c3W hr
 |some s=>exact X8 (hr _ _ _) λ_ _=>S0
omit hr in
theorem a9v:∀(n:Nat)(d:Int)(t:Bool)(i:Nat),Ep (C7 R n d t i)
 |0,_,_,_=>a3y
 |n+1,_,_,_=>c4B (a9v n)
omit hr in
theorem c7d:Ep (b2E R):=X8 (a9v _ _ _ _) λ_ i=>by
 cases R[i]? with
 |none=>exact S0
 |some y=>
  show Ep (.error (if(Go.Lx.lexO y.text).2.2≠0 then(Go.Lx.lexO y.text).2.2 else 110,i));intro e j h;cases h;split
  ·assumption
  ·decide
end
section
open Go.Eng Go.Pc Go
open Go.Xp hiding B
open Go.Ty (Ty Vr Tok)
open Go.Ly (Rw)
def A0(s:B):Tok:=if Go.Lx.key s then⟨2,0,s,0⟩else⟨5,0,s,0⟩
def E6(s:B):Tok:=⟨1,0,s,0⟩
def G5(t:Ty):List Tok:=(Go.Ty.tokens t).1
def L9(k:Int):List Tok:=G5 ⟨k,0,0,[]⟩
def B6{α:Type}(sep:B)(f:α->List Tok):List α->List Tok
 | []=>[]
 | [x]=>f x
 |x::y::r=>f x++⟨5,0,sep,0⟩::B6 sep f (y::r)
theorem V9{α:Type}(sep:B)(f:α->List Tok):∀(l:List α)(x:α),l≠[]->B6 sep f (l++[x])=B6 sep f l++(⟨5,0,sep,0⟩::f x)
 | [],_,h=>absurd rfl h
 | [y],x,_=>rfl
 |y::z::r,x,_=>by
  show f y++⟨5,0,sep,0⟩::B6 sep f (z::r++[x])=(f y++⟨5,0,sep,0⟩::B6 sep f (z::r))++(⟨5,0,sep,0⟩::f x);rw[V9 sep f (z::r) x (by simp)];simp
def N0(s:B)(l:List Tok):List Tok:=if l.length=0 then[]else A0 s::l
def a1q(r:Rp):List Tok:=if r.name=[]then[]else((([E6 r.name]++[A0 [61]])++C2 r.base)++[A0 [70,79,82]])++C2 r.count
def M3(f:Fo):List Tok:=((if f.val then[A0 [86,65,76]]else[])++G5 f.ty)++[E6 f.name]
abbrev Ln:=Int×List Tok
def J1(k:Int)(n:B)(ch:Ex)(tg ex:List Ex)(rep:Rp):List Tok:=
 if k=1 then[A0 [83,75,73,80]]
 else if k=2 then[A0 [83,84,79,80]]
 else if k=3 then(B6 [44] C2 tg++[A0 [58,61]])++B6 [44] C2 ex
 else if k=4 then(C2 ch++[A0 [63]])++B6 [59] C2 tg
 else if k=5 then(C2 ch++[A0 [33]])++B6 [59] C2 ex
 else if k=6 then(C2 ch++[A0 [63],A0 [65,70,84,69,82]])++B6 [] C2 ex
 else if k=7 then C2 ch++[A0 [63],A0 [67,65,83,69]]
 else if k=8 then[A0 [83,69,81]]++a1q rep
 else if k=9 then[A0 [80,65,82]]++a1q rep
 else if k=10 then[A0 [80,82,73],A0 [80,65,82]]
 else if k=11 then[A0 [80,76,65,67,69,68],A0 [80,65,82]]
 else if k=12 then[A0 [65,76,84]]++a1q rep
 else if k=13 then[A0 [80,82,73],A0 [65,76,84]]++a1q rep
 else if k=14 then[A0 [73,70]]++a1q rep
 else if k=15 then[A0 [67,65,83,69]]++B6 [] C2 ex
 else if k=16 then[A0 [87,72,73,76,69]]++B6 [] C2 ex
 else(([E6 n]++[A0 [40]])++B6 [44] C2 ex)++[A0 [41]]
def a0T(c:Ex):List Tok:=if H4 c then[]else C2 c++[⟨5,0,[38],0⟩]
def H0(k:Int)(n:B)(cond ch:Ex)(tg vl:List Ex)(time:Ex):List Tok:=
 if k=1 then C2 cond
 else if k=2 then a0T cond++[A0 [83,75,73,80]]
 else if k=3 then((a0T cond++C2 ch)++[A0 [63]])++B6 [59] C2 tg
 else if k=4 then((a0T cond++C2 ch)++[A0 [63],A0 [65,70,84,69,82]])++C2 time
 else if k=5 then B6 [44] C2 vl
 else if k=6 then[A0 [69,76,83,69]]
 else[E6 n]++N0 [59] (B6 [59] C2 tg)
def D0(l:List B):List Tok:=B6 [44] (λs=>[E6 s]) l
def K2(v:Vr):List Tok:=[E6 v.tag]++N0 [59] (B6 [59] L9 v.items)
mutual
def D6:Pr->Int->List Ln
 | .mk k n ch tg ex rep _ _ gl _ _ ll pn sp,d=>if k=18 then J3 sp d++a0o ll d else(d,J1 k n ch tg.l ex.l rep)::(F1 k pn.l ll d++H8 gl (d+1))
def a0o:List Pr->Int->List Ln
 | [],_=>[]
 |x::_,d=>D6 x d
def F1(k:Int):List Int->List Pr->Int->List Ln
 |_,[],_=>[]
 |ns,x::r,d=>(if k=11 then(d+1,[A0 [80,82,79,67,69,83,83,79,82],⟨3,0,[],IntKind.i32.wrap (ns.headD 0)⟩])::D6 x (d+2)else D6 x (d+1))++F1 k ns.tail r d
def U7:Gu->Int->List Ln
 | .mk k n cond ch tg vl time _ _ bl,d=>(d,H0 k n cond ch tg.l vl.l time)::a0o bl (d+1)
def H8:List Gu->Int->List Ln
 | [],_=>[]
 |g::r,d=>U7 g d++H8 r d
def J3:Sp->Int->List Ln
 | .mk k ty ns e cs vs fs _ _ bl,d=>
  if k=1 then[(d,(G5 ty++D0 ns.l)++[A0 [58]])]
  else if k=2 then[(d,(((([A0 [86,65,76]]++G5 ty)++D0 ns.l)++[A0 [73,83]])++C2 e)++[A0 [58]])]
  else if k=3 then[(d,(((G5 ty++D0 ns.l)++[A0 [73,83]])++C2 e)++[A0 [58]])]
  else if k=5 then(d,((([A0 [80,82,79,67]]++D0 ns.l)++[A0 [40]])++B6 [44] M3 fs.l)++[A0 [41]])::(a0o bl (d+1)++[(d,[A0 [58]])])
  else if cs=false then[(d,((([A0 [80,82,79,84,79,67,79,76]]++D0 ns.l)++[A0 [73,83]])++B6 [59] L9 (Go.Ty.hdV vs.l).items)++[A0 [58]])]
  else(d,[A0 [80,82,79,84,79,67,79,76]]++D0 ns.l)::(d+1,[A0 [67,65,83,69]])::(vs.l.map (λv=>((d+2,K2 v):Ln))++[(d,[A0 [58]])])
end
abbrev Ps:=List Rw×Bool
def C8(st:Ps)(x:Ln):Ps:=if(Go.Lx.textO x.2).2≠0\/st.1.length>2048 then(st.1,true)else(st.1++[⟨st.1.length+1,x.1,(Go.Lx.textO x.2).1⟩],st.2)
def C1(st:Ps)(l:List Ln):Ps:=l.foldl C8 st
theorem a0Q(st:Ps)(a b:List Ln):C1 st (a++b)=C1 (C1 st a) b:=List.foldl_append
theorem a1G(st:Ps)(x:Ln)(b:List Ln):C1 st (x::b)=C1 (C8 st x) b:=rfl
def V5(p:Pr):List Rw×Int:=if mayP p then(if(C1 ([],false) (D6 p 0)).2||!Go.Ly.mayP (C1 ([],false) (D6 p 0)).1 then([],3)else((C1 ([],false) (D6 p 0)).1,0))else([],2)
end
end Go.Sx
namespace Go.Eng
section
open Go Go.RowKit
section
variable{P:Program}{ops:Array Oper}{Q:Exit->Act->World->Prop}{n:Cx}{F:Fm}{h h':List Res}{m:View}{rest:List Oper}
variable{ty:TypeId}{pos:String}{after:Array Edge}{d:Nat}
theorem c2p{x y:Operand}{t tn e:TypeId}{sz by_ q:Nat}{kn kq:IntKind}{j:Int}(E:EL P t e sz by_)(htn:P.underlying tn=some (.int kn))(ex:Ev n F x (.slice none 0 0))(ey:Ev n F y (.int kq j))(hj:j=(q:Int))(h0:0<q)(hb:q*by_<=140737488355328)(h63:q<=4611686018427387904)(hd:d<n.num)
 (kk:∀b cap,q<=cap->cap<=9223372036854775807->WL P ops Q n rest ((d,.slice (some ⟨b,0,none⟩) q cap)::F) (.row (.slice (some ⟨b,0,none⟩) 0 cap) e sz 0 []::h) m) :
 WL P ops Q n (⟨some d,.call ⟨.builtin .append,#[x,y],#[t,tn]⟩,ty,pos,after,none⟩::rest) F h m:=.mk λf w hf hs=>by
 subst hj;obtain⟨i,z,ht,hi,hz,hsize,hby,hzs,hsz⟩:=E.ex;subst hsize hby
 have hr:=Lib.run_append_grow_zeros (P:=P) w t tn ty e i z kq kn ht htn hi hz none 0 0 [] (run_firstCells_none w.drew i.size 0 0 0) q h0 hsz (by omega) (by omega) (by omega) (growslice_fits (by omega) (by rw[Nat.zero_add];exact hb));simp only[Nat.zero_add]at hr;have hge:=grownCap_ge w q 0 e;have hcm:grownCap w q 0 e<=maxLen:=grownCap_le_maxLen w q 0 e (by unfold maxLen;omega);refine J4 rfl (R5 (v:=.slice (some ⟨w.heap.size,0,none⟩) q (grownCap w q 0 e)) (w':=w.drew.alloc (.cells (([]:List Value).toArray++Builtin.zeroCells z.cells q++Builtin.zeroCells z.cells (grownCap w q 0 e-q)) e)) ?_ (kk w.heap.size (grownCap w q 0 e) hge (by unfold maxLen at hcm;omega) _ _ (hf.put hd _) ?_))
 ·simp at hr
  simp[execOp,resolve,invoke,builtin,ex f hf,ey f hf,hr]
 ·refine(hs.drew.alloc (.cells (([]:List Value).toArray++Builtin.zeroCells z.cells q++Builtin.zeroCells z.cells (grownCap w q 0 e-q)) e)).conv (r':=.row (.slice (some ⟨w.heap.size,0,none⟩) 0 (grownCap w q 0 e)) e i.size 0 []) Upd.here rfl λhh=>?_
  have:=a7s (sz:=i.size) (n:=0) (cap:=grownCap w q 0 e) hh (Nat.zero_le _) hcm (by
   simp only[Array.size_append,List.size_toArray,size_zeroCells,hzs,List.length_nil,Nat.zero_add,<-Nat.add_mul];congr 1
   omega)
  rw[Nat.zero_mul,List.take_zero]at this;exact this
theorem b5W{x:Operand}{t:TypeId}{e:TypeId}{a:Option Addr}{l c:Nat}{dst:Option Tmp}{g:Option (Nat×Bool)}(ht:P.underlying t=some (.slice e))(ex:Ev n F x (.slice a l c)) :
 PO P ⟨dst,.call ⟨.builtin .cap,#[x],#[t]⟩,ty,pos,after,g⟩ n F h m (.int .i64 c):=.mk λb w ha _=>by
 simp[execOp,resolve,invoke,builtin,ex b ha,Builtin.cap_,run_underlying ht,goInt]
end
end
end Go.Eng
namespace Go.Sx
section
open Go.Eng Go.Pc Go
open Go.Xp hiding B C9
open Go.Ty (Ty Vr Tok)
theorem a9P(p:Pr):(stP p).k=p.k/\(stP p).name=p.name/\(stP p).ch=C6 p.ch/\(stP p).tg.l=p.tg.l.map C6/\(stP p).ex.l=p.ex.l.map C6/\(stP p).rep=stR p.rep/\(stP p).gl=p.gl.map stG/\(stP p).ll=p.ll.map stP/\(stP p).pn.l=p.pn.l/\(stP p).sp=stS p.sp:=by
 cases p;refine⟨rfl,rfl,rfl,rfl,rfl,rfl,?_,?_,rfl,rfl⟩
 ·exact b0a _
 ·exact a4U _
theorem b5n(g:Gu):(stG g).k=g.k/\(stG g).name=g.name/\(stG g).cond=C6 g.cond/\(stG g).ch=C6 g.ch/\(stG g).tg.l=g.tg.l.map C6/\(stG g).vl.l=g.vl.l.map C6/\(stG g).time=C6 g.time/\(stG g).bl=g.bl.map stP:=by cases g;exact⟨rfl,rfl,rfl,rfl,rfl,rfl,rfl,a4U _⟩
theorem b7Z(s:Sp):(stS s).k=s.k/\(stS s).ty=s.ty/\(stS s).names.l=s.names.l/\(stS s).e=C6 s.e/\(stS s).cs=s.cs/\(stS s).vs.l=s.vs.l.map a0p/\(stS s).fs.l=s.fs.l/\(stS s).bl=s.bl.map stP:=by rw[X9];exact⟨rfl,rfl,rfl,rfl,rfl,rfl,rfl,rfl⟩
theorem c9t(g:Gu):guP (stG g)=guP g:=by obtain⟨h1,h2,h3,h4,h5,h6,h7,h8⟩:=b5n g;unfold guP a4e;rw[h1,h2,h3,h4,h5,h6,h7,h8,List.length_map,a4q,a4q,a4q,U6,U6,a0C,a5t _ C6 _ _ F5 F5 a0C,a5t _ C6 _ _ F8 F8 U6]
theorem c8U(u:Us)(g:Gu):inG u (stG g)=inG u g:=by unfold inG;rw[c9t,(b5n g).1]
theorem c8V:stS C3=C3:=by
 rw[X9];have:C6 A2=A2:=by rw[a0w];rfl
 show spM 0 Go.Ty.zeroT [] (C6 A2) false [] [] []=C3;rw[this];rfl
theorem b2g(p:Pr)(u:Us):M1 (stP p) u=M1 p u:=by
 obtain⟨h1,h2,h3,h4,h5,h6,h7,h8,h9,h10⟩:=a9P p;unfold M1;rw[h2,h3,h4,h5,h7,h8,h9,h10,List.length_map,a4q,a0C,a5t _ C6 _ _ F5 F5 a0C,a5t _ C6 _ _ F8 F8 U6,a5t _ stG _ _ (inG u) (inG u) (c8U u),c6Q];have:J9 (stS p.sp) C3=J9 p.sp C3:=by have:=b2o p.sp C3;rwa [c8V]at this
 rw[this]
theorem c1Y(p:Pr):L1 (stP p)=L1 p:=by
 obtain⟨h1,h2,h3,h4,h5,h6,h7,h8,h9,h10⟩:=a9P p;unfold L1;have hr:O7 (stP p).rep=O7 p.rep:=by rw[h6];unfold O7 stR;show(if p.rep.name==[]then H4 (C6 p.rep.base)&&H4 (C6 p.rep.count)else Go.Lx.name p.rep.name&&F8 (C6 p.rep.base)&&F8 (C6 p.rep.count))=_;rw[a4q,a4q,U6,U6]
 have hn:(stP p).rep.name=p.rep.name:=by rw[h6];rfl
 rw[h1,hr,hn,b2g,b2g]
theorem c4U(p:Pr)(d:Int)(pl:Bool)(q:Int):U2 (stP p) d pl q=U2 p d pl q:=by unfold U2;rw[c1Y,(a9P p).1]
abbrev b5F(p:Pr):Prop:=∀d pl q,G9 (stP p) d pl q=G9 p d pl q
theorem b8r{d:Int}{pl:Bool}:∀{l:List Pr}{q:Int},(∀x∈l,b5F x)->S8 (l.map stP) d pl q=S8 l d pl q
 | [],_,_=>rfl
 |x::r,q,h=>by
  have h1:=h x (List.Mem.head _) d pl q;show(if(G9 (stP x) d pl q).1 then S8 (r.map stP) d pl (G9 (stP x) d pl q).2 else G9 (stP x) d pl q)=(if(G9 x d pl q).1 then S8 r d pl (G9 x d pl q).2 else G9 x d pl q);rw[h1,b8r λy hy=>h y (List.Mem.tail _ hy)]
theorem b7U{d:Int}{l:List Pr}{q:Int}(h:∀x∈l,b5F x):a4S (l.map stP) d q=a4S l d q:=by
 cases l with
 |nil=>rfl
 |cons x r=>exact h x (List.Mem.head _) d false q
theorem b8C{d:Int}:∀{l:List Gu}{q:Int},(∀g∈l,∀x∈g.bl,b5F x)->a2d (l.map stG) d q=a2d l d q
 | [],_,_=>rfl
 |g::r,q,h=>by
  have h1:a2n (stG g) d q=a2n g d q:=by rw[a5r,a5r,(b5n g).2.2.2.2.2.2.2];exact b7U (h g (List.Mem.head _))
  show(if(a2n (stG g) d q).1 then a2d (r.map stG) d (a2n (stG g) d q).2 else a2n (stG g) d q)=(if(a2n g d q).1 then a2d r d (a2n g d q).2 else a2n g d q);rw[h1,b8C λy hy=>h y (List.Mem.tail _ hy)]
theorem c6o(p:Pr):b5F p:=by
 refine Pr.ind (q:=b5F) (λp ih d pl q=>?_) p;obtain⟨h1,h2,h3,h4,h5,h6,h7,h8,h9,h10⟩:=a9P p;have hs:∀a b,W6 (stS p.sp) a b=W6 p.sp a b:=λa b=>by
  rw[a5Z,a5Z,(b7Z p.sp).2.2.2.2.1,(b7Z p.sp).2.2.2.2.2.2.2,b7U λx hx=>ih x (.s hx)]
 have hl:∀a b c,S8 (p.ll.map stP) a b c=S8 p.ll a b c:=λa b c=>b8r λx hx=>ih x (.l hx)
 have hg:∀a b,a2d (p.gl.map stG) a b=a2d p.gl a b:=λa b=>b8C λg hg x hx=>ih x (.g hg hx)
 rw[a4E (stP p),a4E p,c4U,h1,h7,h8,h10,hs,hl,hl,hg,hg]
theorem c4Q(p:Pr):mayP (stP p)=mayP p:=by unfold mayP;rw[c6o]
theorem b1T{α β:Type}(sep:B)(f:β->List Tok)(g:α->β)(e:α->List Tok)(h:∀x,f (g x)=e x):∀l:List α,B6 sep f (l.map g)=B6 sep e l
 | []=>rfl
 | [x]=>h x
 |x::y::r=>by
  show f (g x)++⟨5,0,sep,0⟩::B6 sep f ((y::r).map g)=e x++⟨5,0,sep,0⟩::B6 sep e (y::r);rw[h,b1T sep f g e h (y::r)]
theorem a2Q(sep:B)(l:List Ex):B6 sep C2 (l.map C6)=B6 sep C2 l:=b1T sep C2 C6 C2 a0f l
theorem c8B(r:Rp):a1q (stR r)=a1q r:=by unfold a1q stR;show(if r.name=[]then[]else((([E6 r.name]++[A0 [61]])++C2 (C6 r.base))++[A0 [70,79,82]])++C2 (C6 r.count))=_;rw[a0f,a0f]
theorem c4J(e:Ex):a0T (C6 e)=a0T e:=by unfold a0T;rw[a4q,a0f]
abbrev b0r(p:Pr):Prop:=∀d,D6 (stP p) d=D6 p d
theorem b1m{k d:Int}:∀{l:List Pr}{ns:List Int},(∀x∈l,b0r x)->F1 k ns (l.map stP) d=F1 k ns l d
 | [],ns,_=>by cases ns<;>rfl
 |x::r,ns,h=>by
  have h1:=h x (List.Mem.head _);show(if k=11 then _::D6 (stP x) (d+2)else D6 (stP x) (d+1))++F1 k ns.tail (r.map stP) d=_;rw[h1,h1,b1m λy hy=>h y (List.Mem.tail _ hy)];rfl
theorem a7J{d:Int}{l:List Pr}(h:∀x∈l,b0r x):a0o (l.map stP) d=a0o l d:=by
 cases l with
 |nil=>rfl
 |cons x r=>exact h x (List.Mem.head _) d
theorem b3Y(g:Gu)(d:Int):U7 g d=(d,H0 g.k g.name g.cond g.ch g.tg.l g.vl.l g.time)::a0o g.bl (d+1):=by cases g;rfl
theorem c0n{d:Int}{g:Gu}(h:∀x∈g.bl,b0r x):U7 (stG g) d=U7 g d:=by obtain⟨h1,h2,h3,h4,h5,h6,h7,h8⟩:=b5n g;rw[b3Y,b3Y,h1,h2,h3,h4,h5,h6,h7,h8,a7J h];unfold H0;rw[a0f,a0f,a0f,c4J,a2Q,a2Q]
theorem a9O{d:Int}:∀{l:List Gu},(∀g∈l,∀x∈g.bl,b0r x)->H8 (l.map stG) d=H8 l d
 | [],_=>rfl
 |g::r,h=>by
  show U7 (stG g) d++H8 (r.map stG) d=U7 g d++H8 r d;rw[c0n (h g (List.Mem.head _)),a9O λy hy=>h y (List.Mem.tail _ hy)]
theorem b45(s:Sp)(d:Int):J3 s d=if s.k=1 then[(d,(G5 s.ty++D0 s.names.l)++[A0 [58]])]
 else if s.k=2 then[(d,(((([A0 [86,65,76]]++G5 s.ty)++D0 s.names.l)++[A0 [73,83]])++C2 s.e)++[A0 [58]])]
 else if s.k=3 then[(d,(((G5 s.ty++D0 s.names.l)++[A0 [73,83]])++C2 s.e)++[A0 [58]])]
 else if s.k=5 then(d,((([A0 [80,82,79,67]]++D0 s.names.l)++[A0 [40]])++B6 [44] M3 s.fs.l)++[A0 [41]])::(a0o s.bl (d+1)++[(d,[A0 [58]])])
 else if s.cs=false then[(d,((([A0 [80,82,79,84,79,67,79,76]]++D0 s.names.l)++[A0 [73,83]])++B6 [59] L9 (Go.Ty.hdV s.vs.l).items)++[A0 [58]])]
 else(d,[A0 [80,82,79,84,79,67,79,76]]++D0 s.names.l)::(d+1,[A0 [67,65,83,69]])::(s.vs.l.map (λv=>((d+2,K2 v):Ln))++[(d,[A0 [58]])]):=by cases s;rfl
theorem b9D{d:Int}{s:Sp}(h:∀x∈s.bl,b0r x):J3 (stS s) d=J3 s d:=by
 obtain⟨h1,h2,h3,h4,h5,h6,h7,h8⟩:=b7Z s;have hv:(Go.Ty.hdV (s.vs.l.map a0p)).items=(Go.Ty.hdV s.vs.l).items:=by cases s.vs.l<;>rfl
 rw[b45,b45,h1,h2,h3,h4,h5,h6,h7,h8,a7J h,a0f,hv,List.map_map];rfl
theorem b5J(p:Pr)(d:Int):D6 p d=if p.k=18 then J3 p.sp d++a0o p.ll d else(d,J1 p.k p.name p.ch p.tg.l p.ex.l p.rep)::(F1 p.k p.pn.l p.ll d++H8 p.gl (d+1)):=by cases p;rfl
theorem c2s(p:Pr):b0r p:=by
 refine Pr.ind (q:=b0r) (λp ih d=>?_) p;obtain⟨h1,h2,h3,h4,h5,h6,h7,h8,h9,h10⟩:=a9P p;have hf:J1 p.k p.name (C6 p.ch) (p.tg.l.map C6) (p.ex.l.map C6) (stR p.rep)=J1 p.k p.name p.ch p.tg.l p.ex.l p.rep:=by unfold J1;rw[a0f,a2Q,a2Q,a2Q,a2Q,a2Q,c8B]
 rw[b5J,b5J,h1,h2,h3,h4,h5,h6,h7,h8,h9,h10,hf,b9D λx hx=>ih x (.s hx),a7J λx hx=>ih x (.l hx),b1m λx hx=>ih x (.l hx),a9O λg hg x hx=>ih x (.g hg hx)]
theorem c1v(p:Pr):V5 (stP p)=V5 p:=by unfold V5;rw[c4Q,c2s]
def O8(s:B):List B:=Lib.splitK [47] 0 (Lib.count s [47]) s
def a7u(i:Nat)(x:B):Go.Ly.Rw:=⟨(i:Int)+1,(x.length:Int)-((Lib.trimLeftB x 46).length:Int),Lib.trimLeftB x 46⟩
def a7i:Nat->List B->List Go.Ly.Rw
 |_,[]=>[]
 |i,x::l=>a7u i x::a7i (i+1) l
theorem b0t:∀{i j:Nat}{l:List B}{x:B},l[j]?=some x->a7i i (l.take (j+1))=a7i i (l.take j)++[a7u (i+j) x]
 |_,_,[],_,h=>by cases h
 |i,0,y::l,x,h=>by cases h;rfl
 |i,j+1,y::l,x,h=>by
  have ih:=b0t (i:=i+1) (j:=j) (l:=l) (x:=x) (by simpa using h);show a7u i y::a7i (i+1) (l.take (j+1))=a7u i y::(a7i (i+1) (l.take j)++[a7u (i+(j+1)) x]);rw[ih,show i+1+j=i+(j+1) by omega]
def a0U(s:B):List Go.Ly.Rw:=a7i 0 (O8 s)
def a4z(s:B)(k:Int):Bool:=(((((T8 (a0U s)).1.k==k)&&(((T8 (a0U s)).2.1:Int)==0))&&((T8 (a0U s)).2.2==0))&&((V5 (T8 (a0U s)).1).2==0))&&eqL Go.Ly.eqR (V5 (T8 (a0U s)).1).1 (a0U s)
end
end Go.Sx
namespace Go.Pc
section
open Go.Eng Go.Xp Go
open Go.Ty (Ty Vr)
def a4r(r s:Rp):Bool:=((r.name==s.name)&&E5 r.base s.base)&&E5 r.count s.count
def a2g(c:Bool)(l:List Vr)(d:Bool)(s:List Vr):Bool:=(c==d)&&eqL P0 l s
mutual
def H6:Pr->Pr->Bool
 | .mk k nm ch tg ex rp _ _ gl _ _ ll pn sp=>λq=>eqL (λa b:Int=>a==b) pn.l q.pn.l&&((((((((((k==q.k)&&(nm==q.name))&&a4r rp q.rep)&&E5 ch q.ch)&&eqL E5 tg.l q.tg.l)&&eqL E5 ex.l q.ex.l)&&b3R gl q.gl)&&a1Z ll q.ll)&&a04 sp q.sp))
def a1Z:List Pr->List Pr->Bool
 | []=>λs=>match s with
  | []=>true
  |_::_=>false
 |x::r=>λs=>match s with
  | []=>false
  |y::t=>H6 x y&&a1Z r t
def S5:Gu->Gu->Bool
 | .mk k nm c ch tg vl tm _ _ bl=>λg=>(((((((k==g.k)&&(nm==g.name))&&E5 c g.cond)&&E5 ch g.ch)&&E5 tm g.time)&&eqL E5 tg.l g.tg.l)&&eqL E5 vl.l g.vl.l)&&a1Z bl g.bl
def b3R:List Gu->List Gu->Bool
 | []=>λs=>match s with
  | []=>true
  |_::_=>false
 |x::r=>λs=>match s with
  | []=>false
  |y::t=>S5 x y&&b3R r t
def a04:Sp->Sp->Bool
 | .mk k ty nms e cs vs fs _ _ bl=>λs=>((((k==s.k)&&Go.Ty.eqT ty s.ty)&&eqL a0s fs.l s.fs.l))&&(((eqL (λa b:B=>a==b) nms.l s.names.l&&E5 e s.e)&&a2g cs vs.l s.cs s.vs.l)&&a1Z bl s.bl)
end
theorem a2S:∀l s:List Pr,a1Z l s=eqL H6 l s
 | [],[]=>rfl
 |x::r,y::s=>by show(H6 x y&&a1Z r s)=(H6 x y&&eqL H6 r s);rw[a2S r s]
 | [],_::_=>rfl
 |_::_,[]=>rfl
theorem a7Y:∀l s:List Gu,b3R l s=eqL S5 l s
 | [],[]=>rfl
 |x::r,y::s=>by show(S5 x y&&b3R r s)=(S5 x y&&eqL S5 r s);rw[a7Y r s]
 | [],_::_=>rfl
 |_::_,[]=>rfl
theorem a7o(p q:Pr):H6 p q=(eqL (λa b:Int=>a==b) p.pn.l q.pn.l&&((((((((((p.k==q.k)&&(p.name==q.name))&&a4r p.rep q.rep)&&E5 p.ch q.ch)&&eqL E5 p.tg.l q.tg.l)&&eqL E5 p.ex.l q.ex.l)&&eqL S5 p.gl q.gl)&&eqL H6 p.ll q.ll)&&a04 p.sp q.sp))):=by rw[<-a7Y,<-a2S];cases p;rfl
theorem a6Q(p g:Gu):S5 p g=((((((((p.k==g.k)&&(p.name==g.name))&&E5 p.cond g.cond)&&E5 p.ch g.ch)&&E5 p.time g.time)&&eqL E5 p.tg.l g.tg.l)&&eqL E5 p.vl.l g.vl.l)&&eqL H6 p.bl g.bl):=by rw[<-a2S];cases p;rfl
theorem a5b(p s:Sp):a04 p s=(((((p.k==s.k)&&Go.Ty.eqT p.ty s.ty)&&eqL a0s p.fs.l s.fs.l))&&(((eqL (λa b:B=>a==b) p.names.l s.names.l&&E5 p.e s.e)&&a2g p.cs p.vs.l s.cs s.vs.l)&&eqL H6 p.bl s.bl)):=by rw[<-a2S];cases p;rfl
theorem c00{x y:Sp}(h:(((x.k !=y.k)||!(Go.Ty.eqT x.ty y.ty))||((x.fs.l.length:Int) !=(y.fs.l.length:Int)))=true):a04 x y=false:=by
 rw[a5b];simp only[Bool.or_eq_true,bne_iff_ne,Bool.not_eq_true']at h;rcases h with(h|h)|h
 ·have:(x.k==y.k)=false:=by simpa using h
  simp[this]
 ·simp[h]
 ·rw[U5 a0s x.fs.l y.fs.l (by omega)]
  simp
theorem b6U{x y:Sp}(h:(((x.k !=y.k)||!(Go.Ty.eqT x.ty y.ty))||((x.fs.l.length:Int) !=(y.fs.l.length:Int)))=false) :
 x.fs.l.length=y.fs.l.length/\a04 x y=(eqL a0s x.fs.l y.fs.l&&(((eqL (λa b:B=>a==b) x.names.l y.names.l&&E5 x.e y.e)&&a2g x.cs x.vs.l y.cs y.vs.l)&&eqL H6 x.bl y.bl)):=by
 rw[a5b];simp only[Bool.or_eq_false_iff,bne_eq_false_iff_eq,Bool.not_eq_false']at h;obtain⟨⟨h1,h2⟩,h3⟩:=h;refine⟨by omega,?_⟩;have h4:(x.k==y.k)=true:=by simpa using h1
 rw[h4,h2,Bool.true_and,Bool.true_and]
end
end Go.Pc
namespace Go.Eng
section
open Go Go.RowKit
section
variable{P:Program}{m m':View}{h h':List Res}{w w':World}
def Vw(m':View)(h':List Res)(m:View)(h:List Res):Prop:=∀(a:Option Addr)(n cap sz:Nat)(xs:List Value),Rd m' h' a n cap sz xs->Rd m h a n cap sz xs
theorem c3m{m:View}{g:Nat}{cur:Array Value}{e:TypeId}{fz:Nat×Nat}{n cap sz:Nat}{xs:List Value}(hl:xs.length=n*sz)(h1:n<=cap)(h2:cap<=9223372036854775807)(ht:cur.toList.take (n*sz)=xs):Rd (m.add g (.cells cur e fz)) [] (some ⟨g,0,none⟩) n cap sz xs:=
 ⟨hl,h1,h2,λw s j u hj=>by
  refine⟨g,0,rfl,?_⟩;have hb:=s.blk g _ (View.add_blk m g (.cells cur e fz));rw[<-ht,List.getElem?_take]at hj;split at hj
  ·simp[World.cell?,hb];simpa using hj
  ·simp at hj⟩
theorem c2Z{m:View}{g:Nat}{o:Obj}{h2:List Res}:Vw (m.add g o) h2 m (.pt g o::h2):=λa n cap sz xs r=>
 ⟨r.len,r.le,r.mx,λw s=>r.at_ w ⟨s.os,s.out,s.tape,λb o' hb=>by
  unfold View.add at hb;simp only at hb;split at hb
  ·rename_i e
   cases hb;rw[e];exact s.ok _ (List.Mem.head _)
  ·exact s.blk b o' hb,λr hr=>s.ok r (List.Mem.tail _ hr),(List.pairwise_cons.1 s.nd).2,λx hx b hb=>by
  unfold View.add;simp only;split
  ·rename_i e
   exact((List.pairwise_cons.1 s.nd).1 x hx b (by rw[e];rfl) hb).elim
  ·exact s.fr x (List.Mem.tail _ hx) b hb⟩⟩
theorem CT.lendRow{f:FuncId}{args:List Value}{a:Option Addr}{n cap sz:Nat}{e:TypeId}{xs:List Value}{R:View->Value->List Res->Prop}(he:∀as w,(callFunc f as).run P w=.ok (.enter f as) w)
 (c:∀m',m.le m'->Rd m' [] a n cap sz xs->CT P f args h m' (λv _ h'=>R m' v h')) :
 CT P f args (.row (.slice a n cap) e sz n xs::h) m (λv _ h'=>∃m' hx h2,R m' v h2/\h'=hx++h2/\Vw m' h2 m (hx++h2)/\Rd m hx a n cap sz xs):=
 ⟨he,λw s=>by
  have hrow:w.ownsRow 0 e sz (.slice a n cap) n xs:=s.ok _ (List.Mem.head _);obtain⟨k1,k2,k3⟩:=b0m hrow;obtain⟨hl,hn|⟨g,cp,cur,hv,_,hh,hnc,hcm,hsz,ht⟩⟩:=hrow
  ·obtain⟨_,rfl⟩:=hn
   have hx0:xs=[]:=List.eq_nil_of_length_eq_zero (by simpa using k3);subst hx0;have s2:St m h w:=⟨s.os,s.out,s.tape,s.blk,λr hr=>s.ok r (List.Mem.tail _ hr),(List.pairwise_cons.1 s.nd).2,λr hr=>s.fr r (List.Mem.tail _ hr)⟩;have r0:∀{q:View},Rd q [] a 0 cap sz []:=⟨k3,k1,k2,λ_ _ j u hj=>by cases hj⟩;refine Calls.mono ((c m Vl r0).calls w s2) ?_;rintro e' w' ⟨v,m2,h2,rfl,hle,s3,hR⟩;exact⟨v,m2,h2,rfl,hle,s3,m,[],h2,hR,rfl,λ_ _ _ _ _ r=>r,r0⟩
  ·simp only[Value.slice.injEq]at hv
   obtain⟨rfl,_,rfl⟩:=hv;have hfp:(Res.row (.slice (some ⟨g,0,none⟩) n cap) e sz n xs).fp=some g:=rfl;have hmg:m.blk g=none:=s.fr _ (List.Mem.head _) g hfp;have s2:St (m.add g (.cells cur e (0,0))) h w:=⟨s.os,s.out,s.tape,λb o' hb=>by
    unfold View.add at hb;simp only at hb;split at hb
    ·rename_i e
     cases hb;rw[e];exact hh
    ·exact s.blk b o' hb,λr hr=>s.ok r (List.Mem.tail _ hr),(List.pairwise_cons.1 s.nd).2,λr hr b hb=>by
    unfold View.add;simp only;split
    ·rename_i e
     exact((List.pairwise_cons.1 s.nd).1 r hr b (e▸hfp) hb).elim
    ·exact s.fr r (List.Mem.tail _ hr) b hb⟩
   refine Calls.mono ((c _ (View.le_add hmg) (c3m k3 k1 k2 ht)).calls w s2) ?_;rintro e' w' ⟨v,m2,h2,rfl,hle,s3,hR⟩;have hml:=(View.le_add (o:=.cells cur e (0,0)) hmg).trans hle;have hg2:m2.blk g=some (.cells cur e (0,0)):=hle.blk _ _ (View.add_blk m g _);refine⟨v,m,.pt g (.cells cur e (0,0))::h2,rfl,Vl,⟨s3.os.trans hml.os,s3.out.trans hml.out,s3.tape.trans hml.tape,λb o hb=>s3.blk b o (hml.blk b o hb),λr hr=>?_,?_,λr hr b hb=>?_⟩,_,[.pt g (.cells cur e (0,0))],h2,hR,rfl,c2Z,?_⟩
   ·rcases List.mem_cons.1 hr with rfl|hr
    ·exact s3.blk g _ hg2
    ·exact s3.ok r hr
   ·refine List.pairwise_cons.2 ⟨λr hr b h1 h3=>?_,s3.nd⟩
    cases h1;have:=s3.fr r hr _ h3;rw[hg2]at this;cases this
   ·rcases List.mem_cons.1 hr with rfl|hr
    ·cases hb
     exact hmg
    ·have h1:=s3.fr r hr b hb
     cases hm:m.blk b with
     |none=>rfl
     |some o=>rw[hml.blk b o hm]at h1;cases h1
   ·exact c2Z _ _ _ _ _ (c3m k3 k1 k2 ht)⟩
end
end
end Go.Eng
namespace Go.Pc
section
open Go.Eng Go.Xp Go
open Go.Ty (Ty Vr)
set_option linter.unusedSimpArgs false
theorem K5{α:Type}(l:List α)(q:α->Bool):E7 l 0 0 q=l.isEmpty:=by
 unfold E7 a3i;cases l with
 |nil=>rfl
 |cons x r=>
  have:¬(((x::r).length:Int)<=0):=by simp only[List.length_cons];omega
  simp only[this,decide_false,Bool.and_false,Bool.false_and,List.isEmpty_cons]
theorem a3W{α:Type}(l:List α)(q:α->Bool):E7 l 0 8 q=(decide ((l.length:Int)<=8)&&l.all q):=by
 have h1:(l.length:Int)>=0:=by omega
 have h2:(!(l.any λx=>!q x))=l.all q:=by
  induction l with
  |nil=>rfl
  |cons x r ih=>have:=ih (by omega);simp only[List.any_cons,List.all_cons,<-this];cases q x<;>simp
 unfold E7 a3i;rw[h2];simp[h1]
theorem X3(n:Nat):a3i 1 1 (n:Int)=((n:Int)==1):=by unfold a3i;rw[Bool.eq_iff_iff];simp;omega
theorem a08(n:Nat):a3i 2 2 (n:Int)=((n:Int)==2):=by unfold a3i;rw[Bool.eq_iff_iff];simp;omega
theorem S6{α:Type}(l:List α):a3i 0 0 (l.length:Int)=l.isEmpty:=by
 cases l with
 |nil=>rfl
 |cons x r=>
  unfold a3i;have:¬(((x::r).length:Int)<=0):=by simp only[List.length_cons];omega
  simp only[this,decide_false,Bool.and_false,List.isEmpty_cons]
theorem Y3{α:Type}(q:α->α->Bool)(l:List α):eqL q l []=l.isEmpty:=by cases l<;>rfl
theorem a07{α:Type}{q:α->α->Bool}(hq:∀x,q x x=true):∀l:List α,eqL q l l=true
 | []=>rfl
 |x::r=>by show(q x x&&eqL q r r)=true;rw[hq,a07 hq r];rfl
theorem I2{α:Type}(l:List α):((l.length:Int)==0)=l.isEmpty:=by
 cases l with
 |nil=>rfl
 |cons x r=>rw[List.isEmpty_cons,beq_eq_false_iff_ne];simp only[List.length_cons];omega
theorem a3R(t:Ty):Go.Ty.eqT t t=true:=(Go.Ty.eqT_iff t t).2 rfl
theorem a3O(f:Fo):a0s f f=true:=by unfold a0s;simp[a3R]
theorem a1N(v:Vr):P0 v v=true:=by unfold P0;simp
theorem H2:H4 A2=true:=by decide
def a6n:Gu:=.mk 0 [] A2 A2 B0 B0 A2 none 0 []
def a4A:Rp:=⟨[],A2,A2⟩
def R3:Pr:=.mk 0 [] A2 B0 B0 a4A none 0 [] none 0 [] B0 C3
theorem a1F{nm:B}{c ch tm:Ex}{tg vl:Sli Ex}:S5 (.mk 0 nm c ch tg vl tm none 0 []) a6n=((((((nm==[])&&H4 c)&&H4 ch)&&H4 tm)&&tg.l.isEmpty)&&vl.l.isEmpty):=by rw[a6Q];show(((((((((0:Int)==0)&&(nm==[]))&&E5 c A2)&&E5 ch A2)&&E5 tm A2)&&eqL E5 tg.l [])&&eqL E5 vl.l [])&&eqL H6 [] [])=_;rw[Y3,Y3,show((0:Int)==0)=true from rfl,Bool.true_and,show eqL H6 [] []=true from rfl,Bool.and_true];rfl
theorem a1y(s:Sp):a04 s C3=J9 s C3:=by
 rw[a5b];unfold J9;show(((((s.k==0)&&Go.Ty.eqT s.ty Go.Ty.zeroT)&&eqL a0s s.fs.l []))&&(((eqL (λa b:B=>a==b) s.names.l []&&E5 s.e A2)&&((s.cs==false)&&eqL P0 s.vs.l []))&&eqL H6 s.bl []))=((((((((s.k==0)&&Go.Ty.eqT s.ty Go.Ty.zeroT)&&(s.names.l==[]))&&E5 s.e A2)&&(s.cs==false))&&eqL P0 s.vs.l [])&&eqL a0s s.fs.l [])&&((s.bl.length:Int)==0));rw[Y3,Y3,Y3,Y3,I2,show(s.names.l==[])=s.names.l.isEmpty by cases s.names.l<;>rfl];generalize (s.k==0)=a;generalize Go.Ty.eqT s.ty Go.Ty.zeroT=b;generalize s.fs.l.isEmpty=c;generalize s.names.l.isEmpty=d;generalize E5 s.e A2=e;generalize (s.cs==false)=f;generalize s.vs.l.isEmpty=g;generalize s.bl.isEmpty=i;revert a b c d e f g i
 decide
theorem N6{nm:B}{ch:Ex}{tg ex:Sli Ex}{pn:Sli Int}{sp:Sp}:H6 (.mk 0 nm ch tg ex a4A none 0 [] none 0 [] pn sp) R3=(((((pn.l.isEmpty&&(nm==[]))&&H4 ch)&&tg.l.isEmpty)&&ex.l.isEmpty)&&J9 sp C3):=by
 rw[a7o,<-a1y];show(eqL (λa b:Int=>a==b) pn.l []&&(((((((((((0:Int)==0)&&(nm==[]))&&a4r a4A a4A)&&E5 ch A2)&&eqL E5 tg.l [])&&eqL E5 ex.l [])&&eqL S5 [] [])&&eqL H6 [] [])&&a04 sp C3)))=_;rw[Y3,Y3,Y3,show((0:Int)==0)=true from rfl,show a4r a4A a4A=true by decide,show eqL H6 [] []=true from rfl,show eqL S5 [] []=true from rfl];show _=(((((pn.l.isEmpty&&(nm==[]))&&E5 ch A2)&&tg.l.isEmpty)&&ex.l.isEmpty)&&a04 sp C3);generalize pn.l.isEmpty=a;generalize (nm==[])=b;generalize E5 ch A2=c;generalize tg.l.isEmpty=d;generalize ex.l.isEmpty=e;generalize a04 sp C3=f;revert a b c d e f
 decide
theorem Y4{α:Type}:(B0:Sli α).l.isEmpty=true:=rfl
theorem a1r:(([]:B)==[])=true:=rfl
theorem c8M{g:Gu}(h:g.k=1\/g.k=2):guP g=((F8 g.cond&&((g.bl.length:Int)==1))&&S5 (.mk 0 g.name A2 g.ch g.tg g.vl g.time none 0 []) a6n):=by
 rw[a1F];try rw[H2]
 unfold guP a4e;rcases h with h|h
 ·rw[h]
  simp only[Int.reduceEq,Int.reduceBEq,Int.reduceBNe,Int.reduceLE,if_true,if_false,reduceIte,decide_true,decide_false,K5,O0,Bool.or_true,Bool.or_false,Bool.true_or,Bool.false_or,Bool.and_true,Bool.and_false,Bool.true_and,Bool.false_and,Bool.false_eq_true,Y4,a1r,H2];generalize F8 g.cond=x0;generalize H4 g.ch=x1;generalize H4 g.time=x2;generalize g.tg.l.isEmpty=x3;generalize g.vl.l.isEmpty=x4;generalize (g.name==[])=x5;generalize ((g.bl.length:Int)==1)=x6;revert x0 x1 x2 x3 x4 x5 x6
  decide
 ·rw[h]
  simp only[Int.reduceEq,Int.reduceBEq,Int.reduceBNe,Int.reduceLE,if_true,if_false,reduceIte,decide_true,decide_false,K5,O0,Bool.or_true,Bool.or_false,Bool.true_or,Bool.false_or,Bool.and_true,Bool.and_false,Bool.true_and,Bool.false_and,Bool.false_eq_true,Y4,a1r,H2];generalize F8 g.cond=x0;generalize H4 g.ch=x1;generalize H4 g.time=x2;generalize g.tg.l.isEmpty=x3;generalize g.vl.l.isEmpty=x4;generalize (g.name==[])=x5;generalize ((g.bl.length:Int)==1)=x6;revert x0 x1 x2 x3 x4 x5 x6
  decide
theorem d01{g:Gu}(h:g.k=3):guP g=(((((H4 g.cond||F8 g.cond)&&F5 g.ch)&&E7 g.tg.l 1 8 F5)&&((g.bl.length:Int)==1))&&S5 (.mk 0 g.name A2 A2 B0 g.vl g.time none 0 []) a6n):=by
 rw[a1F];try rw[H2]
 unfold guP a4e;rw[h];simp only[Int.reduceEq,Int.reduceBEq,Int.reduceBNe,Int.reduceLE,if_true,if_false,reduceIte,decide_true,decide_false,K5,O0,Bool.or_true,Bool.or_false,Bool.true_or,Bool.false_or,Bool.and_true,Bool.and_false,Bool.true_and,Bool.false_and,Bool.false_eq_true,Y4,a1r,H2];generalize E7 g.tg.l 1 8 F5=x0;generalize F8 g.cond=x1;generalize H4 g.cond=x2;generalize F5 g.ch=x3;generalize H4 g.time=x4;generalize g.vl.l.isEmpty=x5;generalize (g.name==[])=x6;generalize ((g.bl.length:Int)==1)=x7;revert x0 x1 x2 x3 x4 x5 x6 x7
 decide
theorem d0h{g:Gu}(h:g.k=4):guP g=(((((H4 g.cond||F8 g.cond)&&F5 g.ch)&&F8 g.time)&&((g.bl.length:Int)==1))&&S5 (.mk 0 g.name A2 A2 g.tg g.vl A2 none 0 []) a6n):=by
 rw[a1F];try rw[H2]
 unfold guP a4e;rw[h];simp only[Int.reduceEq,Int.reduceBEq,Int.reduceBNe,Int.reduceLE,if_true,if_false,reduceIte,decide_true,decide_false,K5,O0,Bool.or_true,Bool.or_false,Bool.true_or,Bool.false_or,Bool.and_true,Bool.and_false,Bool.true_and,Bool.false_and,Bool.false_eq_true,Y4,a1r,H2];generalize F8 g.cond=x0;generalize H4 g.cond=x1;generalize F5 g.ch=x2;generalize F8 g.time=x3;generalize g.tg.l.isEmpty=x4;generalize g.vl.l.isEmpty=x5;generalize (g.name==[])=x6;generalize ((g.bl.length:Int)==1)=x7;revert x0 x1 x2 x3 x4 x5 x6 x7
 decide
theorem d08{g:Gu}(h:g.k=5):guP g=((E7 g.vl.l 1 8 F8&&((g.bl.length:Int)==1))&&S5 (.mk 0 g.name g.cond g.ch g.tg B0 g.time none 0 []) a6n):=by
 rw[a1F];try rw[H2]
 unfold guP a4e;rw[h];simp only[Int.reduceEq,Int.reduceBEq,Int.reduceBNe,Int.reduceLE,if_true,if_false,reduceIte,decide_true,decide_false,K5,O0,Bool.or_true,Bool.or_false,Bool.true_or,Bool.false_or,Bool.and_true,Bool.and_false,Bool.true_and,Bool.false_and,Bool.false_eq_true,Y4,a1r,H2];generalize E7 g.vl.l 1 8 F8=x0;generalize H4 g.cond=x1;generalize H4 g.ch=x2;generalize H4 g.time=x3;generalize g.tg.l.isEmpty=x4;generalize (g.name==[])=x5;generalize ((g.bl.length:Int)==1)=x6;revert x0 x1 x2 x3 x4 x5 x6
 decide
theorem d0u{g:Gu}(h:g.k=6):guP g=((true&&((g.bl.length:Int)==1))&&S5 (.mk 0 g.name g.cond g.ch g.tg g.vl g.time none 0 []) a6n):=by
 rw[a1F];try rw[H2]
 unfold guP a4e;rw[h];simp only[Int.reduceEq,Int.reduceBEq,Int.reduceBNe,Int.reduceLE,if_true,if_false,reduceIte,decide_true,decide_false,K5,O0,Bool.or_true,Bool.or_false,Bool.true_or,Bool.false_or,Bool.and_true,Bool.and_false,Bool.true_and,Bool.false_and,Bool.false_eq_true,Y4,a1r,H2];generalize H4 g.cond=x0;generalize H4 g.ch=x1;generalize H4 g.time=x2;generalize g.tg.l.isEmpty=x3;generalize g.vl.l.isEmpty=x4;generalize (g.name==[])=x5;generalize ((g.bl.length:Int)==1)=x6;revert x0 x1 x2 x3 x4 x5 x6
 decide
theorem d02{g:Gu}(h:g.k=7):guP g=(((Go.Lx.name g.name&&E7 g.tg.l 0 8 F5)&&((g.bl.length:Int)==1))&&S5 (.mk 0 [] g.cond g.ch B0 g.vl g.time none 0 []) a6n):=by
 rw[a1F];try rw[H2]
 unfold guP a4e;rw[h];simp only[Int.reduceEq,Int.reduceBEq,Int.reduceBNe,Int.reduceLE,if_true,if_false,reduceIte,decide_true,decide_false,K5,O0,Bool.or_true,Bool.or_false,Bool.true_or,Bool.false_or,Bool.and_true,Bool.and_false,Bool.true_and,Bool.false_and,Bool.false_eq_true,Y4,a1r,H2];generalize E7 g.tg.l 0 8 F5=x0;generalize Go.Lx.name g.name=x1;generalize H4 g.cond=x2;generalize H4 g.ch=x3;generalize H4 g.time=x4;generalize g.vl.l.isEmpty=x5;generalize ((g.bl.length:Int)==1)=x6;revert x0 x1 x2 x3 x4 x5 x6
 decide
theorem c9N{g:Gu}(h0:0<=g.k)(h:¬(g.k=1\/g.k=2))(h3:g.k≠3)(h4:g.k≠4)(h5:g.k≠5)(h6:g.k≠6)(h7:g.k≠7)(b:Bool):guP g=((false&&((g.bl.length:Int)==1))&&b):=by
 rw[Bool.false_and,Bool.false_and];unfold guP;by_cases hz:g.k=0
 ·rw[hz];rfl
 ·have:¬g.k<=7:=by omega
  simp[this]
theorem b5B{k:Int}{ty:Ty}{names:Sli B}{e:Ex}{cs:Bool}{vs:Sli Vr}{fs:Sli Fo}{ba:Option Addr}{bc:Nat}{bl:List Pr}:(Sp.mk k ty names e cs vs fs ba bc bl).k=k:=rfl
theorem b0O{k:Int}{ty:Ty}{names:Sli B}{e:Ex}{cs:Bool}{vs:Sli Vr}{fs:Sli Fo}{ba:Option Addr}{bc:Nat}{bl:List Pr}:(Sp.mk k ty names e cs vs fs ba bc bl).ty=ty:=rfl
theorem a4d{k:Int}{ty:Ty}{names:Sli B}{e:Ex}{cs:Bool}{vs:Sli Vr}{fs:Sli Fo}{ba:Option Addr}{bc:Nat}{bl:List Pr}:(Sp.mk k ty names e cs vs fs ba bc bl).names=names:=rfl
theorem b4I{k:Int}{ty:Ty}{names:Sli B}{e:Ex}{cs:Bool}{vs:Sli Vr}{fs:Sli Fo}{ba:Option Addr}{bc:Nat}{bl:List Pr}:(Sp.mk k ty names e cs vs fs ba bc bl).e=e:=rfl
theorem a9o{k:Int}{ty:Ty}{names:Sli B}{e:Ex}{cs:Bool}{vs:Sli Vr}{fs:Sli Fo}{ba:Option Addr}{bc:Nat}{bl:List Pr}:(Sp.mk k ty names e cs vs fs ba bc bl).cs=cs:=rfl
theorem a9Q{k:Int}{ty:Ty}{names:Sli B}{e:Ex}{cs:Bool}{vs:Sli Vr}{fs:Sli Fo}{ba:Option Addr}{bc:Nat}{bl:List Pr}:(Sp.mk k ty names e cs vs fs ba bc bl).vs=vs:=rfl
theorem b09{k:Int}{ty:Ty}{names:Sli B}{e:Ex}{cs:Bool}{vs:Sli Vr}{fs:Sli Fo}{ba:Option Addr}{bc:Nat}{bl:List Pr}:(Sp.mk k ty names e cs vs fs ba bc bl).fs=fs:=rfl
theorem b0b{k:Int}{ty:Ty}{names:Sli B}{e:Ex}{cs:Bool}{vs:Sli Vr}{fs:Sli Fo}{ba:Option Addr}{bc:Nat}{bl:List Pr}:(Sp.mk k ty names e cs vs fs ba bc bl).bl=bl:=rfl
theorem a1Y{α:Type}:(B0:Sli α).l=[]:=rfl
theorem a2Y(e:Ex):E5 e e=true:=(a0O e e).2 rfl
theorem a6W{α:Type}:((([]:List α).length:Nat):Int)=0:=rfl
theorem a3T:E5 A2 A2=true:=by decide
theorem d0r{s:Sp}(h:s.k=1):spP s=((Go.Ty.may s.ty&&E7 s.names.l 1 8 Go.Lx.name)&&a04 (.mk 0 Go.Ty.zeroT B0 s.e s.cs s.vs s.fs s.ba s.bc s.bl) C3):=by
 rw[a1y];unfold spP a1i a0x J9;rw[h];show _=(_&&(((((((((0:Int)==0)&&Go.Ty.eqT Go.Ty.zeroT Go.Ty.zeroT)&&(([]:List B)==[]))&&E5 s.e A2)&&(s.cs==false))&&eqL P0 s.vs.l [])&&eqL a0s s.fs.l [])&&(((s.bl:List Pr).length:Int)==0)));simp only[Int.reduceEq,Int.reduceBEq,Int.reduceLE,and_self,and_true,true_and,if_true,if_false,reduceIte,beq_self_eq_true,Bool.and_true,Bool.true_and,b5B,b0O,a4d,b4I,a9o,a9Q,b09,b0b,a3T,a2Y,a6W,a3R,Y3,I2,a07 a3O,a07 a1N,Y4,a1Y,List.isEmpty_nil,a3W];all_goals
  generalize Go.Ty.may s.ty=x0;generalize E7 s.names.l 1 8 Go.Lx.name=x1;generalize E5 s.e A2=x2;generalize (s.cs==false)=x3;generalize s.vs.l.isEmpty=x4;generalize s.fs.l.isEmpty=x5;generalize s.bl.isEmpty=x6;revert x0 x1 x2 x3 x4 x5 x6
  decide
theorem d0o{s:Sp}(h:s.k=2):spP s=(((X2 s.ty&&E7 s.names.l 1 1 Go.Lx.name)&&F8 s.e)&&a04 (.mk 0 Go.Ty.zeroT B0 A2 s.cs s.vs s.fs s.ba s.bc s.bl) C3):=by
 rw[a1y];unfold spP a1i a0x J9;rw[h];show _=(_&&(((((((((0:Int)==0)&&Go.Ty.eqT Go.Ty.zeroT Go.Ty.zeroT)&&(([]:List B)==[]))&&E5 A2 A2)&&(s.cs==false))&&eqL P0 s.vs.l [])&&eqL a0s s.fs.l [])&&(((s.bl:List Pr).length:Int)==0)));simp only[Int.reduceEq,Int.reduceBEq,Int.reduceLE,and_self,and_true,true_and,if_true,if_false,reduceIte,beq_self_eq_true,Bool.and_true,Bool.true_and,b5B,b0O,a4d,b4I,a9o,a9Q,b09,b0b,a3T,a2Y,a6W,a3R,Y3,I2,a07 a3O,a07 a1N,Y4,a1Y,List.isEmpty_nil,a3W];all_goals
  generalize X2 s.ty=x0;generalize E7 s.names.l 1 1 Go.Lx.name=x1;generalize F8 s.e=x2;generalize (s.cs==false)=x3;generalize s.vs.l.isEmpty=x4;generalize s.fs.l.isEmpty=x5;generalize s.bl.isEmpty=x6;revert x0 x1 x2 x3 x4 x5 x6
  decide
theorem d05{s:Sp}(h:s.k=3):spP s=(((X2 s.ty&&E7 s.names.l 1 1 Go.Lx.name)&&F5 s.e)&&a04 (.mk 0 Go.Ty.zeroT B0 A2 s.cs s.vs s.fs s.ba s.bc s.bl) C3):=by
 rw[a1y];unfold spP a1i a0x J9;rw[h];show _=(_&&(((((((((0:Int)==0)&&Go.Ty.eqT Go.Ty.zeroT Go.Ty.zeroT)&&(([]:List B)==[]))&&E5 A2 A2)&&(s.cs==false))&&eqL P0 s.vs.l [])&&eqL a0s s.fs.l [])&&(((s.bl:List Pr).length:Int)==0)));simp only[Int.reduceEq,Int.reduceBEq,Int.reduceLE,and_self,and_true,true_and,if_true,if_false,reduceIte,beq_self_eq_true,Bool.and_true,Bool.true_and,b5B,b0O,a4d,b4I,a9o,a9Q,b09,b0b,a3T,a2Y,a6W,a3R,Y3,I2,a07 a3O,a07 a1N,Y4,a1Y,List.isEmpty_nil,a3W];all_goals
  generalize X2 s.ty=x0;generalize E7 s.names.l 1 1 Go.Lx.name=x1;generalize F5 s.e=x2;generalize (s.cs==false)=x3;generalize s.vs.l.isEmpty=x4;generalize s.fs.l.isEmpty=x5;generalize s.bl.isEmpty=x6;revert x0 x1 x2 x3 x4 x5 x6
  decide
theorem d0n{s:Sp}(h:s.k=4):spP s=((E7 s.names.l 1 1 Go.Lx.name&&Go.Ty.mayPr s.cs s.vs.l)&&a04 (.mk 0 s.ty B0 s.e false B0 s.fs s.ba s.bc s.bl) C3):=by
 rw[a1y];unfold spP a1i a0x J9;rw[h];show _=(_&&(((((((((0:Int)==0)&&Go.Ty.eqT s.ty Go.Ty.zeroT)&&(([]:List B)==[]))&&E5 s.e A2)&&(false==false))&&eqL P0 [] [])&&eqL a0s s.fs.l [])&&(((s.bl:List Pr).length:Int)==0)));simp only[Int.reduceEq,Int.reduceBEq,Int.reduceLE,and_self,and_true,true_and,if_true,if_false,reduceIte,beq_self_eq_true,Bool.and_true,Bool.true_and,b5B,b0O,a4d,b4I,a9o,a9Q,b09,b0b,a3T,a2Y,a6W,a3R,Y3,I2,a07 a3O,a07 a1N,Y4,a1Y,List.isEmpty_nil,a3W];all_goals
  generalize E7 s.names.l 1 1 Go.Lx.name=x0;generalize Go.Ty.mayPr s.cs s.vs.l=x1;generalize Go.Ty.eqT s.ty Go.Ty.zeroT=x2;generalize E5 s.e A2=x3;generalize s.fs.l.isEmpty=x4;generalize s.bl.isEmpty=x5;revert x0 x1 x2 x3 x4 x5
  decide
theorem d0v{s:Sp}(h:s.k=5):spP s=((((E7 s.names.l 1 1 Go.Lx.name&&decide ((s.fs.l.length:Int)<=8))&&((s.bl.length:Int)==1))&&s.fs.l.all foP)&&a04 (.mk 0 s.ty B0 s.e s.cs s.vs B0 none 0 []) C3):=by
 rw[a1y];unfold spP a1i a0x J9;rw[h];show _=(_&&(((((((((0:Int)==0)&&Go.Ty.eqT s.ty Go.Ty.zeroT)&&(([]:List B)==[]))&&E5 s.e A2)&&(s.cs==false))&&eqL P0 s.vs.l [])&&eqL a0s [] [])&&((([]:List Pr).length:Int)==0)));simp only[Int.reduceEq,Int.reduceBEq,Int.reduceLE,and_self,and_true,true_and,if_true,if_false,reduceIte,beq_self_eq_true,Bool.and_true,Bool.true_and,b5B,b0O,a4d,b4I,a9o,a9Q,b09,b0b,a3T,a2Y,a6W,a3R,Y3,I2,a07 a3O,a07 a1N,Y4,a1Y,List.isEmpty_nil,a3W];all_goals
  generalize E7 s.names.l 1 1 Go.Lx.name=x0;generalize decide ((s.fs.l.length:Int)<=8)=x1;generalize ((s.bl.length:Int)==1)=x2;generalize s.fs.l.all foP=x3;generalize Go.Ty.eqT s.ty Go.Ty.zeroT=x4;generalize E5 s.e A2=x5;generalize (s.cs==false)=x6;generalize s.vs.l.isEmpty=x7;revert x0 x1 x2 x3 x4 x5 x6 x7
  decide
theorem c8J{s:Sp}(h1:s.k≠1)(h2:s.k≠2)(h3:s.k≠3)(h4:s.k≠4)(h5:s.k≠5)(b:Bool):spP s=(false&&b):=by unfold spP;rw[if_neg (by omega),Bool.false_and]
def K1(nm:B)(ch:Ex)(tg ex:Sli Ex)(pn:Sli Int)(sp:Sp):Pr:=.mk 0 nm ch tg ex a4A none 0 [] none 0 [] pn sp
def gQ(a b:Int):Gu->Bool:=inG { us0 with lo:=a,hi:=b }
def b0h(p:Pr):Bool:=if p.k=8\/p.k=9 then((((true&&((!(!(p.rep.name==[])))||((p.ll.length:Int)==1)))&&((p.gl.length:Int)==0))&&O7 p.rep)&&H6 (K1 p.name p.ch p.tg p.ex p.pn p.sp) R3)else false
def a0r(p:Pr):Bool:=if p.ll.length<=2048 then L1 p else b0h p
theorem a1C{p:Pr}{pb A:Bool}(hA:pb=false->A=false)(hb:pb=true->p.ll.length<=2048)(hk:¬(p.k=8\/p.k=9))(h:L1 p=A):a0r p=A:=by
 unfold a0r;by_cases hl:p.ll.length<=2048
 ·rw[if_pos hl,h]
 ·have hf:pb=false:=by
   cases hp:pb with
   |false=>rfl
   |true=>exact absurd (hb hp) hl
  rw[if_neg hl,hA hf];unfold b0h;rw[if_neg hk]
theorem b3m{p:Pr}{u:Us}(hu:B5 p.k=(u,true)):L1 p=(O7 p.rep&&(if(p.rep.name==[])=true then M1 p u else(u.rep&&M1 p (b3D u)))):=by
 unfold L1;rw[hu];cases hr:O7 p.rep with
 |false=>rfl
 |true=>
  cases hn:(p.rep.name==[])with
  |true=>
   have:(p.rep.name !=[])=false:=by rw[bne,hn];rfl
   simp[this]
  |false=>
   have:(p.rep.name !=[])=true:=by rw[bne,hn];rfl
   cases hx:u.rep<;>simp[this,hx]
theorem a0B{p:Pr}{u:Us}(hu:B5 p.k=(u,true))(hr:u.rep=false):L1 p=(O7 p.rep&&((p.rep.name==[])&&M1 p u)):=by rw[b3m hu,hr];cases (p.rep.name==[])<;>simp
theorem a4L{α:Type}{l:List α}(h:l.isEmpty=true):l.length<=2048:=by cases l with
 |nil=>simp
 |cons _ _=>cases h
theorem c3E{n:Nat}(h:((n:Int)==1)=true):n<=2048:=by
 have:(n:Int)=1:=by simpa using h
 omega
theorem c8j{n:Nat}(h:((n:Int)==2)=true):n<=2048:=by
 have:(n:Int)=2:=by simpa using h
 omega
theorem a3a:J9 C3 C3=true:=by decide
theorem c7U{p:Pr}(h:p.k=1\/p.k=2):a0r p=(((((!(!(p.rep.name==[])))&&((p.ll.length:Int)==0))&&((p.gl.length:Int)==0))&&O7 p.rep)&&H6 (K1 p.name p.ch p.tg p.ex p.pn p.sp) R3):=by
 have hu:B5 p.k=(us0,true):=by rcases h with h|h<;>rw[h]<;>rfl
 refine a1C (pb:=((p.ll.length:Int)==0)) (λhp=>by rw[hp];simp only[Bool.and_false,Bool.false_and]) (λhp=>by rw[I2]at hp;exact a4L hp) (by omega) ?_;rw[a0B hu rfl];unfold K1;rw[N6];dsimp only [M1,us0];simp only[Bool.false_eq_true,if_true,if_false,reduceIte,K5,S6,X3,a08,O0,I2,Bool.and_true,Bool.true_and,Bool.false_and,Bool.false_or,Bool.or_false,Bool.not_false,Bool.not_true,Y4,a1r,H2,a1Y,List.isEmpty_nil,a3a];generalize O7 p.rep=x0;generalize (p.rep.name==[])=x1;generalize p.ll.isEmpty=x2;generalize p.gl.isEmpty=x3;generalize (p.name==[])=x4;generalize H4 p.ch=x5;generalize p.tg.l.isEmpty=x6;generalize p.ex.l.isEmpty=x7;generalize p.pn.l.isEmpty=x8;generalize J9 p.sp C3=x9;revert x0 x1 x2 x3 x4 x5 x6 x7 x8 x9
 decide +kernel
theorem c9F{p:Pr}(h:p.k=3):a0r p=(((((((!(!(p.rep.name==[])))&&E7 p.tg.l 1 8 F5)&&E7 p.ex.l 1 8 F8)&&((p.ll.length:Int)==0))&&((p.gl.length:Int)==0))&&O7 p.rep)&&H6 (K1 p.name p.ch B0 B0 p.pn p.sp) R3):=by
 have hu:B5 p.k=({ us0 with t0:=1,t1:=8,e0:=1,e1:=8 },true):=by rw[h];rfl
 refine a1C (pb:=((p.ll.length:Int)==0)) (λhp=>by rw[hp];simp only[Bool.and_false,Bool.false_and]) (λhp=>by rw[I2]at hp;exact a4L hp) (by omega) ?_;rw[a0B hu rfl];unfold K1;rw[N6];dsimp only [M1,us0];simp only[Bool.false_eq_true,if_true,if_false,reduceIte,K5,S6,X3,a08,O0,I2,Bool.and_true,Bool.true_and,Bool.false_and,Bool.false_or,Bool.or_false,Bool.not_false,Bool.not_true,Y4,a1r,H2,a1Y,List.isEmpty_nil,a3a];generalize O7 p.rep=x0;generalize (p.rep.name==[])=x1;generalize p.ll.isEmpty=x2;generalize p.gl.isEmpty=x3;generalize (p.name==[])=x4;generalize H4 p.ch=x5;generalize E7 p.tg.l 1 8 F5=x6;generalize p.pn.l.isEmpty=x7;generalize J9 p.sp C3=x8;generalize E7 p.ex.l 1 8 F8=x9;revert x0 x1 x2 x3 x4 x5 x6 x7 x8 x9
 decide +kernel
theorem c8X{p:Pr}(h:p.k=4):a0r p=(((((((!(!(p.rep.name==[])))&&F5 p.ch)&&E7 p.tg.l 1 8 F5)&&((p.ll.length:Int)==0))&&((p.gl.length:Int)==0))&&O7 p.rep)&&H6 (K1 p.name A2 B0 p.ex p.pn p.sp) R3):=by
 have hu:B5 p.k=({ us0 with chan:=true,t0:=1,t1:=8 },true):=by rw[h];rfl
 refine a1C (pb:=((p.ll.length:Int)==0)) (λhp=>by rw[hp];simp only[Bool.and_false,Bool.false_and]) (λhp=>by rw[I2]at hp;exact a4L hp) (by omega) ?_;rw[a0B hu rfl];unfold K1;rw[N6];dsimp only [M1,us0];simp only[Bool.false_eq_true,if_true,if_false,reduceIte,K5,S6,X3,a08,O0,I2,Bool.and_true,Bool.true_and,Bool.false_and,Bool.false_or,Bool.or_false,Bool.not_false,Bool.not_true,Y4,a1r,H2,a1Y,List.isEmpty_nil,a3a];generalize O7 p.rep=x0;generalize (p.rep.name==[])=x1;generalize p.ll.isEmpty=x2;generalize p.gl.isEmpty=x3;generalize (p.name==[])=x4;generalize F5 p.ch=x5;generalize E7 p.tg.l 1 8 F5=x6;generalize p.ex.l.isEmpty=x7;generalize p.pn.l.isEmpty=x8;generalize J9 p.sp C3=x9;revert x0 x1 x2 x3 x4 x5 x6 x7 x8 x9
 decide +kernel
theorem c9y{p:Pr}(h:p.k=5):a0r p=(((((((!(!(p.rep.name==[])))&&F5 p.ch)&&E7 p.ex.l 1 9 F8)&&((p.ll.length:Int)==0))&&((p.gl.length:Int)==0))&&O7 p.rep)&&H6 (K1 p.name A2 p.tg B0 p.pn p.sp) R3):=by
 have hu:B5 p.k=({ us0 with chan:=true,e0:=1,e1:=9 },true):=by rw[h];rfl
 refine a1C (pb:=((p.ll.length:Int)==0)) (λhp=>by rw[hp];simp only[Bool.and_false,Bool.false_and]) (λhp=>by rw[I2]at hp;exact a4L hp) (by omega) ?_;rw[a0B hu rfl];unfold K1;rw[N6];dsimp only [M1,us0];simp only[Bool.false_eq_true,if_true,if_false,reduceIte,K5,S6,X3,a08,O0,I2,Bool.and_true,Bool.true_and,Bool.false_and,Bool.false_or,Bool.or_false,Bool.not_false,Bool.not_true,Y4,a1r,H2,a1Y,List.isEmpty_nil,a3a];generalize O7 p.rep=x0;generalize (p.rep.name==[])=x1;generalize p.ll.isEmpty=x2;generalize p.gl.isEmpty=x3;generalize (p.name==[])=x4;generalize F5 p.ch=x5;generalize p.tg.l.isEmpty=x6;generalize p.pn.l.isEmpty=x7;generalize J9 p.sp C3=x8;generalize E7 p.ex.l 1 9 F8=x9;revert x0 x1 x2 x3 x4 x5 x6 x7 x8 x9
 decide +kernel
theorem c9W{p:Pr}(h:p.k=6):a0r p=(((((((!(!(p.rep.name==[])))&&F5 p.ch)&&E7 p.ex.l 1 1 F8)&&((p.ll.length:Int)==0))&&((p.gl.length:Int)==0))&&O7 p.rep)&&H6 (K1 p.name A2 p.tg B0 p.pn p.sp) R3):=by
 have hu:B5 p.k=({ us0 with chan:=true,e0:=1,e1:=1 },true):=by rw[h];rfl
 refine a1C (pb:=((p.ll.length:Int)==0)) (λhp=>by rw[hp];simp only[Bool.and_false,Bool.false_and]) (λhp=>by rw[I2]at hp;exact a4L hp) (by omega) ?_;rw[a0B hu rfl];unfold K1;rw[N6];dsimp only [M1,us0];simp only[Bool.false_eq_true,if_true,if_false,reduceIte,K5,S6,X3,a08,O0,I2,Bool.and_true,Bool.true_and,Bool.false_and,Bool.false_or,Bool.or_false,Bool.not_false,Bool.not_true,Y4,a1r,H2,a1Y,List.isEmpty_nil,a3a];generalize O7 p.rep=x0;generalize (p.rep.name==[])=x1;generalize p.ll.isEmpty=x2;generalize p.gl.isEmpty=x3;generalize (p.name==[])=x4;generalize F5 p.ch=x5;generalize p.tg.l.isEmpty=x6;generalize p.pn.l.isEmpty=x7;generalize J9 p.sp C3=x8;generalize E7 p.ex.l 1 1 F8=x9;revert x0 x1 x2 x3 x4 x5 x6 x7 x8 x9
 decide +kernel
theorem c9w{p:Pr}(h:p.k=7):a0r p=((((((!(!(p.rep.name==[])))&&F5 p.ch)&&((p.ll.length:Int)==0))&&E7 p.gl 1 16 (gQ 7 7))&&O7 p.rep)&&H6 (K1 p.name A2 p.tg p.ex p.pn p.sp) R3):=by
 have hu:B5 p.k=({ us0 with chan:=true,g0:=1,g1:=16,lo:=7,hi:=7 },true):=by rw[h];rfl
 refine a1C (pb:=((p.ll.length:Int)==0)) (λhp=>by rw[hp];simp only[Bool.and_false,Bool.false_and]) (λhp=>by rw[I2]at hp;exact a4L hp) (by omega) ?_;rw[a0B hu rfl];unfold K1;rw[N6];dsimp only [M1,us0];simp only[Bool.false_eq_true,if_true,if_false,reduceIte,K5,S6,X3,a08,O0,I2,Bool.and_true,Bool.true_and,Bool.false_and,Bool.false_or,Bool.or_false,Bool.not_false,Bool.not_true,Y4,a1r,H2,a1Y,List.isEmpty_nil,a3a];have e1:E7 p.gl 1 16 (inG { rep:=false,name:=false,chan:=true,spec:=false,procs:=false,t0:=0,t1:=0,e0:=0,e1:=0,p0:=0,p1:=0,g0:=1,g1:=16,lo:=7,hi:=7 })=E7 p.gl 1 16 (gQ 7 7):=rfl;rw[e1];generalize O7 p.rep=x0;generalize (p.rep.name==[])=x1;generalize p.ll.isEmpty=x2;generalize (p.name==[])=x3;generalize F5 p.ch=x4;generalize p.tg.l.isEmpty=x5;generalize p.ex.l.isEmpty=x6;generalize p.pn.l.isEmpty=x7;generalize J9 p.sp C3=x8;generalize E7 p.gl 1 16 (gQ 7 7)=x9
 revert x0 x1 x2 x3 x4 x5 x6 x7 x8 x9
 decide +kernel
theorem c8n{p:Pr}(h:p.k=10):a0r p=(((((!(!(p.rep.name==[])))&&((p.ll.length:Int)==2))&&((p.gl.length:Int)==0))&&O7 p.rep)&&H6 (K1 p.name p.ch p.tg p.ex p.pn p.sp) R3):=by
 have hu:B5 p.k=({ us0 with p0:=2,p1:=2 },true):=by rw[h];rfl
 refine a1C (pb:=((p.ll.length:Int)==2)) (λhp=>by rw[hp];simp only[Bool.and_false,Bool.false_and]) (λhp=>c8j hp) (by omega) ?_;rw[a0B hu rfl];unfold K1;rw[N6];dsimp only [M1,us0];simp only[Bool.false_eq_true,if_true,if_false,reduceIte,K5,S6,X3,a08,O0,I2,Bool.and_true,Bool.true_and,Bool.false_and,Bool.false_or,Bool.or_false,Bool.not_false,Bool.not_true,Y4,a1r,H2,a1Y,List.isEmpty_nil,a3a];generalize O7 p.rep=x0;generalize (p.rep.name==[])=x1;generalize ((p.ll.length:Int)==2)=x2;generalize p.gl.isEmpty=x3;generalize (p.name==[])=x4;generalize H4 p.ch=x5;generalize p.tg.l.isEmpty=x6;generalize p.ex.l.isEmpty=x7;generalize p.pn.l.isEmpty=x8;generalize J9 p.sp C3=x9;revert x0 x1 x2 x3 x4 x5 x6 x7 x8 x9
 decide +kernel
theorem c8v{p:Pr}(h:p.k=15):a0r p=((((((!(!(p.rep.name==[])))&&E7 p.ex.l 1 1 F8)&&((p.ll.length:Int)==0))&&E7 p.gl 0 16 (gQ 5 6))&&O7 p.rep)&&H6 (K1 p.name p.ch p.tg B0 p.pn p.sp) R3):=by
 have hu:B5 p.k=({ us0 with e0:=1,e1:=1,g0:=0,g1:=16,lo:=5,hi:=6 },true):=by rw[h];rfl
 refine a1C (pb:=((p.ll.length:Int)==0)) (λhp=>by rw[hp];simp only[Bool.and_false,Bool.false_and]) (λhp=>by rw[I2]at hp;exact a4L hp) (by omega) ?_;rw[a0B hu rfl];unfold K1;rw[N6];dsimp only [M1,us0];simp only[Bool.false_eq_true,if_true,if_false,reduceIte,K5,S6,X3,a08,O0,I2,Bool.and_true,Bool.true_and,Bool.false_and,Bool.false_or,Bool.or_false,Bool.not_false,Bool.not_true,Y4,a1r,H2,a1Y,List.isEmpty_nil,a3a];have e1:E7 p.gl 0 16 (inG { rep:=false,name:=false,chan:=false,spec:=false,procs:=false,t0:=0,t1:=0,e0:=1,e1:=1,p0:=0,p1:=0,g0:=0,g1:=16,lo:=5,hi:=6 })=E7 p.gl 0 16 (gQ 5 6):=rfl;rw[e1];generalize O7 p.rep=x0;generalize (p.rep.name==[])=x1;generalize p.ll.isEmpty=x2;generalize (p.name==[])=x3;generalize H4 p.ch=x4;generalize p.tg.l.isEmpty=x5;generalize p.pn.l.isEmpty=x6;generalize J9 p.sp C3=x7;generalize E7 p.ex.l 1 1 F8=x8;generalize E7 p.gl 0 16 (gQ 5 6)=x9
 revert x0 x1 x2 x3 x4 x5 x6 x7 x8 x9
 decide +kernel
theorem c7q{p:Pr}(h:p.k=16):a0r p=((((((!(!(p.rep.name==[])))&&E7 p.ex.l 1 1 F8)&&((p.ll.length:Int)==1))&&((p.gl.length:Int)==0))&&O7 p.rep)&&H6 (K1 p.name p.ch p.tg B0 p.pn p.sp) R3):=by
 have hu:B5 p.k=({ us0 with e0:=1,e1:=1,p0:=1,p1:=1 },true):=by rw[h];rfl
 refine a1C (pb:=((p.ll.length:Int)==1)) (λhp=>by rw[hp];simp only[Bool.and_false,Bool.false_and]) (λhp=>c3E hp) (by omega) ?_;rw[a0B hu rfl];unfold K1;rw[N6];dsimp only [M1,us0];simp only[Bool.false_eq_true,if_true,if_false,reduceIte,K5,S6,X3,a08,O0,I2,Bool.and_true,Bool.true_and,Bool.false_and,Bool.false_or,Bool.or_false,Bool.not_false,Bool.not_true,Y4,a1r,H2,a1Y,List.isEmpty_nil,a3a];generalize O7 p.rep=x0;generalize (p.rep.name==[])=x1;generalize ((p.ll.length:Int)==1)=x2;generalize p.gl.isEmpty=x3;generalize (p.name==[])=x4;generalize H4 p.ch=x5;generalize p.tg.l.isEmpty=x6;generalize p.pn.l.isEmpty=x7;generalize J9 p.sp C3=x8;generalize E7 p.ex.l 1 1 F8=x9;revert x0 x1 x2 x3 x4 x5 x6 x7 x8 x9
 decide +kernel
theorem c7G{p:Pr}(h:p.k=17):a0r p=(((((((!(!(p.rep.name==[])))&&Go.Lx.name p.name)&&E7 p.ex.l 0 8 F8)&&((p.ll.length:Int)==0))&&((p.gl.length:Int)==0))&&O7 p.rep)&&H6 (K1 [] p.ch p.tg B0 p.pn p.sp) R3):=by
 have hu:B5 p.k=({ us0 with name:=true,e0:=0,e1:=8 },true):=by rw[h];rfl
 refine a1C (pb:=((p.ll.length:Int)==0)) (λhp=>by rw[hp];simp only[Bool.and_false,Bool.false_and]) (λhp=>by rw[I2]at hp;exact a4L hp) (by omega) ?_;rw[a0B hu rfl];unfold K1;rw[N6];dsimp only [M1,us0];simp only[Bool.false_eq_true,if_true,if_false,reduceIte,K5,S6,X3,a08,O0,I2,Bool.and_true,Bool.true_and,Bool.false_and,Bool.false_or,Bool.or_false,Bool.not_false,Bool.not_true,Y4,a1r,H2,a1Y,List.isEmpty_nil,a3a];generalize O7 p.rep=x0;generalize (p.rep.name==[])=x1;generalize p.ll.isEmpty=x2;generalize p.gl.isEmpty=x3;generalize Go.Lx.name p.name=x4;generalize H4 p.ch=x5;generalize p.tg.l.isEmpty=x6;generalize p.pn.l.isEmpty=x7;generalize J9 p.sp C3=x8;generalize E7 p.ex.l 0 8 F8=x9;revert x0 x1 x2 x3 x4 x5 x6 x7 x8 x9
 decide +kernel
theorem c8C{p:Pr}(h:p.k=18):a0r p=((((((!(!(p.rep.name==[])))&&spP p.sp)&&((p.ll.length:Int)==1))&&((p.gl.length:Int)==0))&&O7 p.rep)&&H6 (K1 p.name p.ch p.tg p.ex p.pn C3) R3):=by
 have hu:B5 p.k=({ us0 with spec:=true,p0:=1,p1:=1 },true):=by rw[h];rfl
 refine a1C (pb:=((p.ll.length:Int)==1)) (λhp=>by rw[hp];simp only[Bool.and_false,Bool.false_and]) (λhp=>c3E hp) (by omega) ?_;rw[a0B hu rfl];unfold K1;rw[N6];dsimp only [M1,us0];simp only[Bool.false_eq_true,if_true,if_false,reduceIte,K5,S6,X3,a08,O0,I2,Bool.and_true,Bool.true_and,Bool.false_and,Bool.false_or,Bool.or_false,Bool.not_false,Bool.not_true,Y4,a1r,H2,a1Y,List.isEmpty_nil,a3a];generalize O7 p.rep=x0;generalize (p.rep.name==[])=x1;generalize ((p.ll.length:Int)==1)=x2;generalize p.gl.isEmpty=x3;generalize (p.name==[])=x4;generalize H4 p.ch=x5;generalize p.tg.l.isEmpty=x6;generalize p.ex.l.isEmpty=x7;generalize p.pn.l.isEmpty=x8;generalize spP p.sp=x9;revert x0 x1 x2 x3 x4 x5 x6 x7 x8 x9
 decide +kernel
end
end Go.Pc
namespace Go.Sx
section
open Go.Eng Go.Pc Go
open Go.Xp hiding B C9
open Go.Ty (Ty Vr Tok)
theorem a3J{α:Type}(q:α->α->Bool)(f:α->α):∀(l r:List α),(∀x∈l,∀y,q (f x) y=q x y)->eqL q (l.map f) r=eqL q l r
 | [],[],_=>rfl
 | [],_::_,_=>rfl
 |_::_,[],_=>rfl
 |x::l,y::r,h=>by
  show(q (f x) y&&eqL q (l.map f) r)=(q x y&&eqL q l r);rw[h x (List.Mem.head _),a3J q f l r λz hz=>h z (List.Mem.tail _ hz)]
theorem b7H(p q:Pr):H6 p q=(eqL (λa b:Int=>a==b) p.pn.l q.pn.l&&((((((((((p.k==q.k)&&(p.name==q.name))&&a4r p.rep q.rep)&&E5 p.ch q.ch)&&eqL E5 p.tg.l q.tg.l)&&eqL E5 p.ex.l q.ex.l)&&eqL S5 p.gl q.gl)&&eqL H6 p.ll q.ll)&&a04 p.sp q.sp))):=by rw[<-a7Y,<-a2S];cases p;rfl
theorem b8c(p q:Gu):S5 p q=((((((((p.k==q.k)&&(p.name==q.name))&&E5 p.cond q.cond)&&E5 p.ch q.ch)&&E5 p.time q.time)&&eqL E5 p.tg.l q.tg.l)&&eqL E5 p.vl.l q.vl.l)&&eqL H6 p.bl q.bl):=by rw[<-a2S];cases p;rfl
theorem b7N(p q:Sp):a04 p q=(((((p.k==q.k)&&Go.Ty.eqT p.ty q.ty)&&eqL a0s p.fs.l q.fs.l))&&(((eqL (λa b:B=>a==b) p.names.l q.names.l&&E5 p.e q.e)&&a2g p.cs p.vs.l q.cs q.vs.l)&&eqL H6 p.bl q.bl)):=by rw[<-a2S];cases p;rfl
theorem c6i(r s:Rp):a4r (stR r) s=a4r r s:=by unfold a4r;show(((r.name==s.name)&&E5 (C6 r.base) s.base)&&E5 (C6 r.count) s.count)=_;rw[a1z,a1z]
theorem b8I(p:Pr):∀q,H6 (stP p) q=H6 p q:=by
 refine Pr.ind (q:=λp=>∀q,H6 (stP p) q=H6 p q) (λp ih q=>?_) p;obtain⟨h1,h2,h3,h4,h5,h6,h7,h8,h9,h10⟩:=a9P p;have hs:a04 (stS p.sp) q.sp=a04 p.sp q.sp:=by
  obtain⟨s1,s2,s3,s4,s5,s6,s7,s8⟩:=b7Z p.sp;have hv:a2g p.sp.cs (p.sp.vs.l.map a0p) q.sp.cs q.sp.vs.l=a2g p.sp.cs p.sp.vs.l q.sp.cs q.sp.vs.l:=by unfold a2g;rw[a3J P0 a0p _ _ λ_ _ _=>rfl]
  rw[b7N,b7N,s1,s2,s3,s4,s5,s6,s7,s8,a1z,hv,a3J H6 stP _ _ λx hx y=>ih x (.s hx) y]
 have hg:eqL S5 (p.gl.map stG) q.gl=eqL S5 p.gl q.gl:=by
  refine a3J S5 stG _ _ λg hgm y=>?_;obtain⟨g1,g2,g3,g4,g5,g6,g7,g8⟩:=b5n g;rw[b8c,b8c,g1,g2,g3,g4,g5,g6,g7,g8,a1z,a1z,a1z,a3J E5 C6 _ _ (λx _ y=>a1z x y),a3J E5 C6 _ _ (λx _ y=>a1z x y),a3J H6 stP _ _ λx hx y=>ih x (.g hgm hx) y]
 rw[b7H,b7H,h1,h2,h3,h4,h5,h6,h7,h8,h9,h10,hs,hg,a1z,c6i,a3J E5 C6 _ _ (λx _ y=>a1z x y),a3J E5 C6 _ _ (λx _ y=>a1z x y),a3J H6 stP _ _ λx hx y=>ih x (.l hx) y]
def a3E(s:B)(n e:Int):Bool:=H6 (T8 (a0U s)).1 R3&&((((T8 (a0U s)).2.1:Nat):Int)==n)&&((T8 (a0U s)).2.2==e)
end
end Go.Sx
namespace Go.Pc
section
open Go.Eng Go.Xp Go
open Go.Ty (Ty Vr)
set_option linter.unusedSimpArgs false
theorem c8d{p:Pr}(h:p.k=8\/p.k=9):a0r p=((((true&&((!(!(p.rep.name==[])))||((p.ll.length:Int)==1)))&&((p.gl.length:Int)==0))&&O7 p.rep)&&H6 (K1 p.name p.ch p.tg p.ex p.pn p.sp) R3):=by
 unfold a0r;by_cases hl:p.ll.length<=2048
 ·rw[if_pos hl]
  have hu:B5 p.k=({ us0 with rep:=true,p0:=0,p1:=2048 },true):=by rcases h with h|h<;>rw[h]<;>rfl
  rw[b3m hu];unfold K1;rw[N6];have hs:a3i 0 2048 (p.ll.length:Int)=true:=by unfold a3i;simp;omega
  rw[show b3D { us0 with rep:=true,p0:=0,p1:=2048 }={ us0 with rep:=true,p0:=1,p1:=1 } from rfl];dsimp only [M1,us0];simp only[Bool.false_eq_true,if_false,reduceIte,K5,X3,hs,O0,I2,Bool.and_true,Bool.true_and,Bool.false_and,Bool.false_or,Bool.or_false,Bool.not_false,Bool.not_true];generalize O7 p.rep=x0;generalize (p.rep.name==[])=x1;generalize ((p.ll.length:Int)==1)=x2;generalize p.gl.isEmpty=x3;generalize (p.name==[])=x4;generalize H4 p.ch=x5;generalize p.tg.l.isEmpty=x6;generalize p.ex.l.isEmpty=x7;generalize p.pn.l.isEmpty=x8;generalize J9 p.sp C3=x9;revert x0 x1 x2 x3 x4 x5 x6 x7 x8 x9
  decide +kernel
 ·rw[if_neg hl]
  unfold b0h;rw[if_pos h]
theorem c1Z{p:Pr}{lo hi le mo:Int}(h89:¬(p.k=8\/p.k=9))(hu:B5 p.k=({ us0 with rep:=true,g0:=0,g1:=16,lo:=lo,hi:=hi },true))(hml:mo=(if(p.rep.name==[])=true then 16 else 1)/\le=(if(p.rep.name==[])=true then 0 else 1)) :
 a0r p=((((true&&((p.ll.length:Int)==0))&&E7 p.gl le mo (gQ lo hi))&&O7 p.rep)&&H6 (K1 p.name p.ch p.tg p.ex p.pn p.sp) R3):=by
 refine a1C (pb:=((p.ll.length:Int)==0)) (λhp=>by rw[hp];simp only[Bool.and_false,Bool.false_and]) (λhp=>by rw[I2]at hp;exact a4L hp) h89 ?_;rw[b3m hu];unfold K1;rw[N6,show b3D { us0 with rep:=true,g0:=0,g1:=16,lo:=lo,hi:=hi }={ us0 with rep:=true,g0:=1,g1:=1,lo:=lo,hi:=hi } from rfl];obtain⟨rfl,rfl⟩:=hml;have e1:∀a b:Int,E7 p.gl a b (inG { rep:=true,name:=false,chan:=false,spec:=false,procs:=false,t0:=0,t1:=0,e0:=0,e1:=0,p0:=0,p1:=0,g0:=a,g1:=b,lo:=lo,hi:=hi })=E7 p.gl a b (gQ lo hi):=λ_ _=>rfl
 dsimp only [M1,us0];simp only[Bool.false_eq_true,if_false,reduceIte,K5,S6,O0,I2,Bool.and_true,Bool.true_and,Bool.false_and,Bool.false_or,Bool.or_false,Bool.not_false,Bool.not_true,e1];cases hn:(p.rep.name==[])with
 |true=>
  simp only[if_true];generalize O7 p.rep=x0;generalize p.ll.isEmpty=x2;generalize E7 p.gl 0 16 (gQ lo hi)=x3;generalize (p.name==[])=x4;generalize H4 p.ch=x5;generalize p.tg.l.isEmpty=x6;generalize p.ex.l.isEmpty=x7;generalize p.pn.l.isEmpty=x8;generalize J9 p.sp C3=x9;revert x0 x2 x3 x4 x5 x6 x7 x8 x9
  decide +kernel
 |false=>
  simp only[Bool.false_eq_true,if_false];generalize O7 p.rep=x0;generalize p.ll.isEmpty=x2;generalize E7 p.gl 1 1 (gQ lo hi)=x3;generalize (p.name==[])=x4;generalize H4 p.ch=x5;generalize p.tg.l.isEmpty=x6;generalize p.ex.l.isEmpty=x7;generalize p.pn.l.isEmpty=x8;generalize J9 p.sp C3=x9;revert x0 x2 x3 x4 x5 x6 x7 x8 x9
  decide +kernel
theorem c3I{p:Pr}{le mo:Int}(h:p.k=12\/p.k=13)(hml:mo=(if(p.rep.name==[])=true then 16 else 1)/\le=(if(p.rep.name==[])=true then 0 else 1)) :
 a0r p=((((true&&((p.ll.length:Int)==0))&&E7 p.gl le mo (gQ 2 4))&&O7 p.rep)&&H6 (K1 p.name p.ch p.tg p.ex p.pn p.sp) R3):=
 c1Z (by omega) (by rcases h with h|h<;>rw[h]<;>rfl) hml
theorem c8y{p:Pr}{le mo:Int}(h:p.k=14)(hml:mo=(if(p.rep.name==[])=true then 16 else 1)/\le=(if(p.rep.name==[])=true then 0 else 1)) :
 a0r p=((((true&&((p.ll.length:Int)==0))&&E7 p.gl le mo (gQ 1 1))&&O7 p.rep)&&H6 (K1 p.name p.ch p.tg p.ex p.pn p.sp) R3):=
 c1Z (by omega) (by rw[h];rfl) hml
def okN(n:Int):Bool:=decide (n>=0)&&decide (n<=7)
theorem c1d{α:Type}{l:List α}{n:Nat}{q:α->Bool}:E7 l n n q=(((l.length:Int)==(n:Int))&&l.all q):=by
 have h2:(!(l.any λx=>!q x))=l.all q:=by
  induction l with
  |nil=>rfl
  |cons x r ih=>simp only[List.any_cons,List.all_cons,<-ih];cases q x<;>simp
 have h3:a3i n n (l.length:Int)=((l.length:Int)==(n:Int)):=by unfold a3i;rw[Bool.eq_iff_iff];simp;omega
 unfold E7;rw[h2,h3]
theorem c7g{p:Pr}{v:Bool}(h:p.k=11)(hJ:p.pn.l.length<=8->v=(((!(!(p.rep.name==[])))&&((p.pn.l.length:Int)==(p.ll.length:Int)))&&p.pn.l.all okN))(hN:¬p.pn.l.length<=8->v=((!(!(p.rep.name==[])))&&((p.pn.l.length:Int)==(p.ll.length:Int)))) :
 a0r p=((((v&&(decide ((p.ll.length:Int)>=1)&&decide ((p.ll.length:Int)<=8)))&&((p.gl.length:Int)==0))&&O7 p.rep)&&H6 (K1 p.name p.ch p.tg p.ex B0 p.sp) R3):=by
 have hu:B5 p.k=({ us0 with procs:=true,p0:=1,p1:=8 },true):=by rw[h];rfl
 refine a1C (pb:=(decide ((p.ll.length:Int)>=1)&&decide ((p.ll.length:Int)<=8))) (λhp=>by rw[hp];simp only[Bool.and_false,Bool.false_and]) (λhp=>by simp at hp;omega) (by omega) ?_;rw[a0B hu rfl];unfold K1;rw[N6];have e1:E7 p.pn.l (p.ll.length:Int) (p.ll.length:Int) (λn=>decide (n>=0)&&decide (n<8))=(((p.pn.l.length:Int)==(p.ll.length:Int))&&p.pn.l.all okN):=by
  rw[c1d];have:(λn:Int=>decide (n>=0)&&decide (n<8))=okN:=by
   funext n
   unfold okN;rw[Bool.eq_iff_iff];simp;omega
  rw[this]
 dsimp only [M1,us0];simp only[Bool.false_eq_true,if_true,if_false,reduceIte,K5,O0,I2,Bool.and_true,Bool.true_and,Bool.false_and,Bool.false_or,Bool.or_false,Bool.not_false,Bool.not_true,Y4,a1Y,e1];unfold a3i;by_cases h8:p.pn.l.length<=8
 ·rw[hJ h8]
  generalize O7 p.rep=x0;generalize (p.rep.name==[])=x1;generalize decide ((p.ll.length:Int)>=1)=x2;generalize decide ((p.ll.length:Int)<=8)=x3;generalize (p.name==[])=x4;generalize H4 p.ch=x5;generalize p.tg.l.isEmpty=x6;generalize p.ex.l.isEmpty=x7;generalize ((p.pn.l.length:Int)==(p.ll.length:Int))=x8;generalize J9 p.sp C3=x9;generalize p.pn.l.all okN=x10;generalize p.gl.isEmpty=x11;cases x0<;>cases x11<;>revert x1 x2 x3 x4 x5 x6 x7 x8 x9 x10<;>decide +kernel
 ·rw[hN h8]
  have hx:(((p.pn.l.length:Int)==(p.ll.length:Int))&&decide ((p.ll.length:Int)<=8))=false:=by
   cases hq:((p.pn.l.length:Int)==(p.ll.length:Int))with
   |false=>rfl
   |true=>
    have:(p.pn.l.length:Int)=(p.ll.length:Int):=by simpa using hq
    simp;omega
  revert hx
  generalize O7 p.rep=x0;generalize (p.rep.name==[])=x1;generalize decide ((p.ll.length:Int)>=1)=x2;generalize decide ((p.ll.length:Int)<=8)=x3;generalize (p.name==[])=x4;generalize H4 p.ch=x5;generalize p.tg.l.isEmpty=x6;generalize p.ex.l.isEmpty=x7;generalize ((p.pn.l.length:Int)==(p.ll.length:Int))=x8;generalize J9 p.sp C3=x9;generalize p.pn.l.all okN=x10;generalize p.gl.isEmpty=x11;cases x0<;>cases x11<;>revert x1 x2 x3 x4 x5 x6 x7 x8 x9 x10<;>decide +kernel
theorem c7o{p:Pr}(h12:¬(p.k=1\/p.k=2))(h3:p.k≠3)(h4:p.k≠4)(h5:p.k≠5)(h6:p.k≠6)(h7:p.k≠7)(h89:¬(p.k=8\/p.k=9))(h10:p.k≠10)(h11:p.k≠11)(h1213:¬(p.k=12\/p.k=13))(h14:p.k≠14)(h15:p.k≠15)(h16:p.k≠16)(h17:p.k≠17)(h18:p.k≠18)(a b c:Bool) :
 a0r p=((((false&&a)&&b)&&O7 p.rep)&&c):=by
 have hF:(B5 p.k).2=false:=by unfold B5;repeat rw[if_neg (by omega)]
 have hp:L1 p=false:=by unfold L1;rw[hF];simp
 rw[Bool.false_and,Bool.false_and,Bool.false_and,Bool.false_and];unfold a0r;split
 ·exact hp
 ·unfold b0h
  rw[if_neg h89]
end
end Go.Pc
namespace Go.Sx
section
open Go.Eng Go.Pc Go
open Go.Xp hiding B
open Go.Ty (Ty Vr Tok)
open Go.Ly (Rw)
def b3z(a:List Rw)(x:Ln):List Rw:=a++[⟨a.length+1,x.1,(Go.Lx.textO x.2).1⟩]
def a3U(a:List Rw)(l:List Ln):List Rw:=l.foldl b3z a
def a8G(x:Ln):Bool:=(Go.Lx.textO x.2).2 !=0
theorem b70(a:List Rw)(l:List Ln)(x:Ln):a3U a (l++[x])=b3z (a3U a l) x:=by unfold a3U;rw[List.foldl_append];rfl
theorem b1K:∀(l:List Ln)(a:List Rw),(a3U a l).length=a.length+l.length
 | [],_=>rfl
 |x::l,a=>by
  show(a3U (b3z a x) l).length=_;rw[b1K l];unfold b3z;simp only[List.length_append,List.length_cons,List.length_nil];omega
theorem b1q:∀(l:List Ln)(st:Ps),st.2=true->(C1 st l).2=true
 | [],_,h=>h
 |x::l,st,h=>b1q l (C8 st x) (by
  unfold C8;split
  ·rfl
  ·exact h)
theorem a6D:∀(l:List Ln)(st:Ps),(C1 st l).2=false->l.any a8G=false/\(C1 st l).1=a3U st.1 l
 | [],_,_=>⟨rfl,rfl⟩
 |x::l,st,h=>by
  have hc:¬((Go.Lx.textO x.2).2≠0\/st.1.length>2048):=λq=>by
   have e:C8 st x=(st.1,true):=by unfold C8;rw[if_pos q]
   have:=b1q l (C8 st x) (by rw[e]);rw[show C1 st (x::l)=C1 (C8 st x) l from rfl,this]at h;cases h
  have e:C8 st x=(b3z st.1 x,st.2):=by unfold C8;rw[if_neg hc];rfl
  have ih:=a6D l (C8 st x) h;refine⟨?_,?_⟩
  ·have hb:a8G x=false:=by
    unfold a8G;simp only[bne_eq_false_iff_eq];exact Decidable.byContradiction λq=>hc (.inl q)
   rw[List.any_cons,hb,ih.1];rfl
  ·show(C1 (C8 st x) l).1=a3U (b3z st.1 x) l
   rw[ih.2,e]
theorem b01:∀(l:List Ln)(st:Ps),st.2=false->l.any a8G=false->st.1.length+l.length<=2049->(C1 st l).2=false
 | [],_,h,_,_=>h
 |x::l,st,h,hb,hl=>by
  rw[List.any_cons,Bool.or_eq_false_iff]at hb;rw[List.length_cons]at hl;have hc:¬((Go.Lx.textO x.2).2≠0\/st.1.length>2048):=λq=>by
   have h1:(Go.Lx.textO x.2).2=0:=by have:=hb.1;unfold a8G at this;simpa using this
   rcases q with q|q
   ·exact q h1
   ·omega
  have e:C8 st x=(b3z st.1 x,st.2):=by unfold C8;rw[if_neg hc];rfl
  refine b01 l (C8 st x) (by rw[e];exact h) hb.2 ?_;rw[e];unfold b3z;simp only[List.length_append,List.length_singleton];omega
def b6B(p:Pr):List Rw×Int:=if mayP p then(if(D6 p 0).any a8G then([],3)else if Go.Ly.mayP (a3U [] (D6 p 0))then(a3U [] (D6 p 0),0)else([],3))else([],2)
theorem c1u{l:List Rw}(h:2048<l.length):Go.Ly.mayP l=false:=by
 cases hm:Go.Ly.mayP l with
 |false=>rfl
 |true=>have:=(Go.Ly.mayP_all hm).1;omega
theorem b6w(p:Pr):V5 p=b6B p:=by
 unfold V5 b6B;split
 ·cases hb:(D6 p 0).any a8G with
  |true=>
   have h2:(C1 ([],false) (D6 p 0)).2=true:=by
    cases h:(C1 ([],false) (D6 p 0)).2 with
    |true=>rfl
    |false=>rw[(a6D _ _ h).1]at hb;cases hb
   rw[h2];rfl
  |false=>
   cases h:(C1 ([],false) (D6 p 0)).2 with
   |true=>
    have hl:2048<(a3U [] (D6 p 0)).length:=by
     rw[b1K];by_cases q:(D6 p 0).length<=2049
     ·rw[b01 _ ([],false) rfl hb (by show 0+_<=_;omega)]at h
      cases h
     ·show 2048<0+_
      omega
    rw[c1u hl];rfl
   |false=>
    rw[(a6D _ _ h).2];cases hm:Go.Ly.mayP (a3U [] (D6 p 0))with
    |true=>simp
    |false=>simp
 ·rfl
theorem a6s{l:List Pr}{d:Int}{x:Ln}(h:x∈a0o l d):∃y∈l,x∈D6 y d:=by
 cases l with
 |nil=>cases h
 |cons y r=>exact⟨y,List.Mem.head _,h⟩
theorem c9B{s:Sp}(h:spP s=true):s.vs.l.length<=16\/s.k≠4:=by
 by_cases h4:s.k=4
 ·left
  unfold spP at h;split at h
  ·simp only[Bool.and_eq_true]at h
   have h1:=h.1.1;unfold a1i at h1;rw[if_neg (by omega),if_neg (by omega),if_neg (by omega),if_pos h4]at h1;unfold Go.Ty.mayPr at h1;split at h1
   ·simp only[Bool.and_eq_true,beq_iff_eq]at h1
    omega
   ·split at h1
    ·cases h1
    ·rename_i q
     simp only[Bool.or_eq_true,decide_eq_true_eq,not_or]at q;omega
  ·cases h
 ·exact .inr h4
theorem b1O{d:Int}:∀{l:List Pr}{k:Int}{ns:List Int},(∀x∈l,∀d,(D6 x d).length+1<=22*P6 x)->(F1 k ns l d).length<=22*O2 l
 | [],k,ns,_=>by rw[show F1 k ns [] d=[] by cases ns<;>rfl];exact Nat.zero_le _
 |y::l,k,ns,h=>by
  have ih:=b1O (d:=d) (l:=l) (k:=k) (ns:=ns.tail) λx hx=>h x (List.Mem.tail _ hx)
  have h1:=h y (List.Mem.head _) (d+1);have h2:=h y (List.Mem.head _) (d+2);show((if k=11 then _ else _)++F1 k ns.tail l d).length<=22*(P6 y+O2 l);rw[List.length_append];split
  ·rw[List.length_cons]
   omega
  ·omega
theorem b0F{l:List Pr}{d:Int}(h:∀x∈l,∀d,(D6 x d).length+1<=22*P6 x):(a0o l d).length<=22*O2 l:=by
 cases l with
 |nil=>exact Nat.zero_le _
 |cons y r=>have h1:=h y (List.Mem.head _) d;show(D6 y d).length<=22*(P6 y+O2 r);omega
theorem b5h{l:List Pr}{d:Int}(h:∀x∈l,∀d,(D6 x d).length+1<=22*P6 x)(hl:l.length=1):(a0o l d).length+1<=22*O2 l:=by
 cases l with
 |nil=>cases hl
 |cons y r=>have h1:=h y (List.Mem.head _) d;show(D6 y d).length+1<=22*(P6 y+O2 r);omega
theorem a8y{d:Int}:∀{l:List Gu},(∀g∈l,g.bl.length=1)->(∀g∈l,∀x∈g.bl,∀d,(D6 x d).length+1<=22*P6 x)->(H8 l d).length<=22*a1a l
 | [],_,_=>Nat.zero_le _
 |g::l,hb,h=>by
  have ih:=a8y (d:=d) (l:=l) (λx hx=>hb x (List.Mem.tail _ hx)) λx hx=>h x (List.Mem.tail _ hx)
  have h1:=b5h (d:=d+1) (h g (List.Mem.head _)) (hb g (List.Mem.head _));have e1:(U7 g d).length=1+(a0o g.bl (d+1)).length:=by cases g;exact Nat.add_comm _ _
  have e2:b2K g=O2 g.bl:=a8O g;show(U7 g d++H8 l d).length<=22*(b2K g+a1a l);rw[List.length_append];omega
theorem b6t{s:Sp}{d:Int}(hv:s.vs.l.length<=16\/s.k≠4)(h:∀x∈s.bl,∀d,(D6 x d).length+1<=22*P6 x)(hk:1<=s.k/\s.k<=5):(J3 s d).length<=20+22*b2Y s:=by
 have h1:=b0F (d:=d+1) h;have e:=a7d s;cases s with
 |mk k ty ns ex cs vs fs ba bc bl=>
  unfold J3;simp only[Sp.vs,Sp.k,Sp.bl]at hv h1 hk e;repeat' split
  all_goals simp only[List.length_cons,List.length_append,List.length_map,List.length_nil]at *
  all_goals omega
theorem a6x{p:Pr}(hv:Vld p):∀d,(D6 p d).length+1<=22*P6 p:=by
 refine Pr.ind (q:=λp=>Vld p->∀d,(D6 p d).length+1<=22*P6 p) (λp ih hv d=>?_) p hv;have hV:=hv.own;have hc:=a6M p;have hL:∀x∈p.ll,∀d,(D6 x d).length+1<=22*P6 x:=λx hx=>ih x (.l hx) (hv.sub (.l hx))
 have hG:∀g∈p.gl,∀x∈g.bl,∀d,(D6 x d).length+1<=22*P6 x:=λg hg x hx=>ih x (.g hg hx) (hv.sub (.g hg hx))
 have hS:∀x∈p.sp.bl,∀d,(D6 x d).length+1<=22*P6 x:=λx hx=>ih x (.s hx) (hv.sub (.s hx))
 have hB:∀g∈p.gl,g.bl.length=1:=λg hg=>(a6J (hV.gs g hg).1).body
 have e:D6 p d=if p.k=18 then J3 p.sp d++a0o p.ll d else(d,J1 p.k p.name p.ch p.tg.l p.ex.l p.rep)::(F1 p.k p.pn.l p.ll d++H8 p.gl (d+1)):=by cases p;rfl
 rw[e];split
 ·rename_i hk
  have hu:spP p.sp=true:=hV.sp (by rw[hk];rfl);have h1:=b0F (d:=d) hL;have h2:=b6t (d:=d) (c9B hu) hS (a6P hu).kd;rw[List.length_append];omega
 ·have h1:=b1O (d:=d) (k:=p.k) (ns:=p.pn.l) hL
  have h2:=a8y (d:=d+1) hB hG;rw[List.length_cons,List.length_append];omega
end
end Go.Sx
namespace Go.Lx
section
open Go.Ty
set_option maxRecDepth 100000
def low(b u:Nat):Nat->B
 |0=>[]
 |i+1=>H7.getD (u/b^i%b) 0::low b u i
theorem b7R(u:Nat):∀i,low 16 u i=a0m u i
 |0=>rfl
 |i+1=>by rw[b0u,<-b7R u i];rfl
theorem b07(b u:Nat):∀i,low b u (i+1)=low b (u/b) i++[H7.getD (u%b) 0]
 |0=>by simp[low]
 |i+1=>by
  have ih:=b07 b u i;show H7.getD (u/b^(i+1)%b) 0::low b u (i+1)=_;rw[ih];show _=(H7.getD (u/b/b^i%b) 0::low b (u/b) i)++_;rw[Nat.div_div_eq_div_mul,<-Nat.pow_succ'];rfl
theorem b7G:∀d,d<10->H7.getD d 0=UInt8.ofNat (48+d):=by decide +kernel
theorem b8A:∀(i u:Nat),u/10^(i+1)=0->(i=0\/0<u/10^i)->low 10 u (i+1)=Lib.decDigits u
 |0,u,h,_=>by
  have h10:u<10:=by
   rcases Nat.lt_or_ge u 10 with h1|h1
   ·exact h1
   ·have:=Nat.div_pos h1 (by decide);simp at h;omega
  rw[b07];unfold Lib.decDigits;rw[dif_pos h10,Nat.mod_eq_of_lt h10,b7G u h10];rfl
 |i+1,u,h,h0=>by
  have hu:10<=u:=by
   rcases Nat.lt_or_ge u 10 with h1|h1
   ·rcases h0 with h0|h0
    ·omega
    ·have h10:10<=10^(i+1):=by rw[Nat.pow_succ];have:=Nat.one_le_pow i 10 (by decide);omega
     rw[Nat.div_eq_of_lt (by omega)]at h0;omega
   ·exact h1
  rw[b07];unfold Lib.decDigits;rw[dif_neg (by omega),b7G _ (Nat.mod_lt _ (by decide)),b8A i (u/10) ?_ ?_]
  ·rw[Nat.div_div_eq_div_mul,<-Nat.pow_succ'];exact h
  ·rcases h0 with h0|h0
   ·omega
   ·right
    rw[Nat.div_div_eq_div_mul,<-Nat.pow_succ'];exact h0
theorem c7R:∀v,v<256->(v==13||v==10||v==9||v==39||v==42||decide (shI v<0))=true:=by decide +kernel
theorem c3Q{v:Nat}(hv:v<256)(h:v≠13/\v≠10/\v≠9/\v≠39/\v≠42):a3H v=if decide ((v:Int)<32)||decide ((v:Int)>126)then[42,35,H7.getD (v/16) 0,H7.getD (v%16) 0]else[UInt8.ofNat v]:=by have:=c7R v hv;simp[h]at this;unfold a3H;rw[if_neg (by simp;omega)]
def a3K(t:Tok):Bool:=(t.kind==5)&&((t.text==[40])||(t.text==[91]))
def a9a(t:Tok):Bool:=(t.kind==5)&&((t.text==[44])||(t.text==[59])||(t.text==[58])||(t.text==[41])||(t.text==[93]))
theorem b9O:∀s∈a4Y,Lib.contains b2B s=((s==[40])||(s==[91])):=by decide +kernel
theorem b6l:∀s∈a4Y,Lib.contains b3c s=((s==[44])||(s==[59])||(s==[58])||(s==[41])||(s==[93])):=by decide +kernel
theorem b4N{t:Tok}(h:J6 t=true)(hk:(t.kind==5)=true):t.text∈a4Y:=by
 have hk:t.kind=5:=by simpa using hk
 rcases b2n h with⟨h1,_⟩|⟨h1,_⟩|⟨_,_,h3⟩|⟨h1,_⟩|⟨h1,_⟩
 ·omega
 ·omega
 ·exact(a1H _ _).1 (by rw[b6p]at h3;exact h3)
 ·omega
 ·omega
theorem a9J{t:Tok}(h:J6 t=true):a5z t b2B=a3K t:=by
 unfold a5z a3K;cases hk:t.kind==5 with
 |false=>rfl
 |true=>rw[b9O _ (b4N h hk)]
theorem b4g{t:Tok}(h:J6 t=true):a5z t b3c=a9a t:=by
 unfold a5z a9a;cases hk:t.kind==5 with
 |false=>rfl
 |true=>rw[b6l _ (b4N h hk)]
def b2k(a b:Tok):Bool:=if a3K b&&(a.kind==1)then true else if a3K a then true else a9a b
theorem b7Q{a b:Tok}(ha:J6 a=true)(hb:J6 b=true):b2k a b=!gap a b:=by unfold b2k gap;rw[a9J ha,a9J hb,b4g hb,bne];cases a3K a<;>cases a3K b<;>cases a9a b<;>cases a.kind==1<;>rfl
end
end Go.Lx
namespace Go.Ly
section
open Go.Eng
def noD(s:B):Prop:=∀k:Nat,s[k]?=some 45->s[k+1]?≠some 45
theorem b5H:∀s:B,noD (a8K s)
 | []=>λk h=>by simp[a8K]at h
 |c::l=>by
  unfold a8K;split
  ·exact λk h=>by simp at h
  ·rename_i hn
   have ih:=b5H l;intro k h1 h2;cases k with
   |zero=>
    simp only[List.getElem?_cons_zero,Option.some.injEq]at h1;simp only[List.getElem?_cons_succ]at h2;apply hn;rw[h1];cases l with
    |nil=>simp[a8K]at h2
    |cons d r=>
     unfold a8K at h2;split at h2
     ·simp at h2
     ·simpa using h2
   |succ k=>simp only[List.getElem?_cons_succ]at h1 h2;exact ih k h1 h2
theorem c6l:∀{s:B},noD s->a8K s=s
 | [],_=>rfl
 |c::l,h=>by
  have ih:a8K l=l:=c6l λk h1 h2=>h (k+1) (by simpa using h1) (by simpa using h2)
  unfold a8K;rw[ih,if_neg];intro e;simp only[Bool.and_eq_true,beq_iff_eq]at e;refine h 0 (by simp[e.1]) ?_;rw[List.getElem?_cons_succ,<-List.head?_eq_getElem?];exact e.2
theorem c1g{a b:B}(ha:noD a)(hb:noD b):noD (a++32::b):=λk h1 h2=>by
 rcases Nat.lt_trichotomy k a.length with h|h|h
 ·rw[List.getElem?_append_left h]at h1
  rcases Nat.lt_or_ge (k+1) a.length with h'|h'
  ·rw[List.getElem?_append_left h']at h2
   exact ha k h1 h2
  ·rw[List.getElem?_append_right h',show k+1-a.length=0 by omega]at h2
   simp at h2
 ·rw[List.getElem?_append_right (by omega),show k-a.length=0 by omega]at h1
  simp at h1
 ·rw[List.getElem?_append_right (by omega),show k-a.length=(k-a.length-1)+1 by omega,List.getElem?_cons_succ]at h1
  rw[List.getElem?_append_right (by omega),show k+1-a.length=(k-a.length-1+1)+1 by omega,List.getElem?_cons_succ]at h2;exact hb _ h1 h2
theorem b1g:∀{s:B},noD s->Lib.index s [45,45]=-1
 | [],_=>rfl
 |c::l,h=>by
  have ih:Lib.index l [45,45]=-1:=b1g λk h1 h2=>h (k+1) (by simpa using h1) (by simpa using h2)
  unfold Lib.index;rw[c6E,ih,if_neg]
  ·rfl
  ·intro e
   simp only[Bool.and_eq_true,beq_iff_eq]at e;refine h 0 (by simp[e.1]) ?_;rw[List.getElem?_cons_succ,<-List.head?_eq_getElem?];exact e.2
theorem b3s{s:B}(h:noD s):Lib.contains s [45,45]=false:=by unfold Lib.contains;rw[b1g h];rfl
theorem b3t{s:B}(h:Lib.contains s [45,45]=false):noD s:=by have e:=c1D s;unfold Lib.contains at h;unfold Lib.cut at e;rw[if_neg (by simpa using h)]at e;have:=b5H s;rw[<-e]at this;exact this
structure TxtV(s:B):Prop where
 ne:s≠[]
 hd:s.head?≠some 32
 ls:s.getLast?≠some 32
 nd:noD s
 ok:s.all okB=true
theorem TxtV.join{a b:B}(ha:TxtV a)(hb:TxtV b):TxtV (a++32::b) where
 ne:=by simp
 hd:=by
  rw[List.head?_append];cases h:a.head? with
  |none=>exact absurd (List.head?_eq_none_iff.1 h) ha.ne
  |some c=>have:=ha.hd;rw[h]at this;exact this
 ls:=by
  rw[show a++32::b=(a++[32])++b by simp,List.getLast?_append];cases h:b.getLast? with
  |none=>exact absurd (List.getLast?_eq_none_iff.1 h) hb.ne
  |some c=>have:=hb.ls;rw[h]at this;exact this
 nd:=c1g ha.nd hb.nd
 ok:=by rw[List.all_append,ha.ok,List.all_cons,hb.ok];rfl
theorem c0L{s:B}(h:s.getLast?≠some 32):Lib.trimRightB s 32=s:=by
 rcases List.eq_nil_or_concat s with rfl|⟨l,c,rfl⟩
 ·rfl
 ·rw[List.concat_eq_append]at h⊢
  refine b7w ?_;simpa using h
theorem c1S{s:B}(h:s.head?≠some 32):Lib.trimLeftB s 32=s:=by
 cases s with
 |nil=>rfl
 |cons c l=>
  have hc:(c==32)=false:=by simpa using h
  simp[Lib.trimLeftB,List.dropWhile,hc]
theorem TxtV.valid{s:B}(h:TxtV s)(hl:s.length<=256)(hc:a8F s=false):validP s=true:=by
 have h1:c0d s=false:=by simp only[c0d,Bool.or_eq_false_iff,decide_eq_false_iff_not,bne_eq_false_iff_eq,beq_eq_false_iff_ne];refine⟨⟨⟨⟨h.ne,by omega⟩,?_⟩,b3s h.nd⟩,hc⟩;unfold Lib.trimB;rw[c0L h.ls,c1S h.hd]
 unfold validP;rw[h1,h.ok];rfl
theorem TxtV.of_valid{s:B}(h:validP s=true):TxtV s:=by
 obtain⟨h1,h2,h3,h4,h5,h6⟩:=validP_spec h;have hL:∀l:B,(Lib.trimLeftB l 32).head?≠some 32:=by intro l e;have:=List.head?_dropWhile_not (·==(32:UInt8)) l;unfold Lib.trimLeftB at e;rw[e]at this;simp at this
 have hR:∀l:B,(Lib.trimRightB l 32).getLast?≠some 32:=by intro l e;unfold Lib.trimRightB at e;rw[List.getLast?_reverse]at e;exact hL l.reverse e
 have hll:∀l:B,(Lib.trimLeftB l 32).length<=l.length:=λl=>(List.dropWhile_sublist _).length_le
 have hrl:∀l:B,(Lib.trimRightB l 32).length<=l.length:=λl=>by
  unfold Lib.trimRightB;rw[List.length_reverse];exact Nat.le_trans (List.dropWhile_sublist _).length_le (by simp)
 refine⟨h1,?_,?_,b3t h4,h6⟩
 ·rw[<-h3]
  exact hL _
 ·-- trimming on the left took nothing
  have e1:(Lib.trimLeftB (Lib.trimRightB s 32) 32).length=s.length:=by show(Lib.trimB s 32).length=_;rw[h3]
  have h7:=hll (Lib.trimRightB s 32);have h8:=hrl s;have h9:Lib.trimLeftB (Lib.trimRightB s 32) 32=Lib.trimRightB s 32:=(List.dropWhile_sublist _).eq_of_length (by unfold Lib.trimLeftB at e1 h7;omega);rw[<-h3];show(Lib.trimLeftB (Lib.trimRightB s 32) 32).getLast?≠_;rw[h9];exact hR s
end
section
open Go.Eng
def a9Y:B->Bool
 |a::b::r=>(a==45&&b==45)||a9Y (b::r)
 |_=>false
theorem b4x:∀{s:B},a9Y s=false->noD s
 | [],_=>λk h=>by simp at h
 | [a],_=>λk h1 h2=>by simp at h2
 |a::b::r,h=>by
  unfold a9Y at h;rw[Bool.or_eq_false_iff]at h;have ih:=b4x h.2;intro k h1 h2;cases k with
  |zero=>simp only[List.getElem?_cons_zero,Option.some.injEq]at h1;simp only[List.getElem?_cons_succ,List.getElem?_cons_zero,Option.some.injEq]at h2;rw[h1,h2]at h;exact absurd h.1 (by decide)
  |succ k=>exact ih k (by simpa using h1) (by simpa using h2)
theorem b4p:∀{s:B},noD s->a9Y s=false
 | [],_=>rfl
 | [a],_=>rfl
 |a::b::r,h=>by
  unfold a9Y;rw[b4p (s:=b::r) λk h1 h2=>h (k+1) (by simpa using h1) (by simpa using h2),Bool.or_false];by_cases e:(a==45&&b==45)=true
  ·simp only[Bool.and_eq_true,beq_iff_eq]at e
   exact absurd (by simp[e.2]) (h 0 (by simp[e.1]))
  ·simpa using e
theorem c4n{s:B}{k:Nat}{c d:UInt8}(hc:s[k]?=some c)(hd:s[k+1]?=some d):a9Y (s.drop k)=((c==45&&d==45)||a9Y (s.drop (k+1))):=by rw[W2 hc,W2 hd];rfl
theorem c2Q{s:B}{k:Nat}(h:s.length<=k+1):a9Y (s.drop k)=false:=by
 have hl:(s.drop k).length<=1:=by rw[List.length_drop];omega
 match s.drop k,hl with
 | [],_=>rfl
 | [a],_=>rfl
def b0Q(s:B):Bool:=((((decide ((s.length:Int)<1)||decide ((s.length:Int)>256))||(s.getD 0 0==32))||(s.getD (s.length-1) 0==32))||a8F s)
def b2t(s:B):Bool:=!b0Q s&&(!a9Y s&&s.all okB)
theorem c6a(s:B):b2t s=validP s:=by
 rcases Nat.eq_zero_or_pos s.length with h0|h0
 ·rw[List.eq_nil_of_length_eq_zero h0]
  decide
 ·have hne:s≠[]:=List.length_pos_iff.1 h0
  have hh:s.head?=some (s.getD 0 0):=by rw[List.head?_eq_getElem?,List.getD_eq_getElem?_getD,List.getElem?_eq_getElem h0];rfl
  have hl:s.getLast?=some (s.getD (s.length-1) 0):=by rw[List.getLast?_eq_getElem?,List.getD_eq_getElem?_getD,List.getElem?_eq_getElem (by omega)];rfl
  rw[Bool.eq_iff_iff];constructor
  ·intro h
   simp only[b2t,b0Q,Bool.and_eq_true,Bool.not_eq_true',Bool.or_eq_false_iff,decide_eq_false_iff_not,beq_eq_false_iff_ne]at h;obtain⟨⟨⟨⟨⟨h1,h2⟩,h3⟩,h4⟩,h5⟩,h6,h7⟩:=h;exact TxtV.valid ⟨hne,by rw[hh];simpa using h3,by rw[hl];simpa using h4,b4x h6,h7⟩ (by omega) h5
  ·intro h
   have hv:=TxtV.of_valid h;obtain⟨_,h2,_,_,h5,h6⟩:=validP_spec h;have h3:=hv.hd;have h4:=hv.ls;rw[hh]at h3;rw[hl]at h4;simp only[b2t,b0Q,Bool.and_eq_true,Bool.not_eq_true',Bool.or_eq_false_iff,decide_eq_false_iff_not,beq_eq_false_iff_ne];exact⟨⟨⟨⟨⟨by omega,by omega⟩,by simpa using h3⟩,by simpa using h4⟩,h5⟩,b4p hv.nd,h6⟩
theorem b5i(no dp:Int)(x:Rw):(((((decide (x.no<no+1)||decide (x.no>65536))||decide (x.depth<0))||decide (x.depth>dp+1))||decide (x.depth>32))||!validP x.text)=b0U no dp x:=by
 unfold b0U;congr 1
 rw[Bool.eq_iff_iff];simp only[Bool.or_eq_true,decide_eq_true_eq];split<;>omega
end
end Go.Ly
namespace Go.Pc
section
open Go.Eng Go.Xp Go
open Go.Ty (Ty Vr)
def L5(r:Bool×Int):Int:=if r.1 then r.2 else -1
def a3B(l:List Pr)(d:Int)(pl:Bool)(q:Int):Int:=if q<0 then -1 else L5 (S8 l d pl q)
def a4f(l:List Gu)(d q:Int):Int:=if q<0 then -1 else L5 (a2d l d q)
theorem a8Y{p:Pr}{d left:Int}{pl:Bool}(h0:0<=left)(h:(G9 p d pl left).1=true):0<=(G9 p d pl left).2/\(G9 p d pl left).2<=left:=by obtain⟨h1,h2⟩:=(a2Z p d pl left h0 h).2 h;exact⟨h2,by omega⟩
theorem a6O{p:Pr}{d left:Int}{pl:Bool}(h0:0<=left):-1<=L5 (G9 p d pl left)/\L5 (G9 p d pl left)<=left:=by
 unfold L5;cases hc:(G9 p d pl left).1 with
 |true=>have:=a8Y h0 hc;simp;omega
 |false=>simp;omega
theorem b9M{l:List Pr}{d q:Int}{pl:Bool}(h:q<0):a3B l d pl q=-1:=by unfold a3B;rw[if_pos h]
theorem a7Z{l:List Gu}{d q:Int}(h:q<0):a4f l d q=-1:=by unfold a4f;rw[if_pos h]
theorem b9r{d q:Int}{pl:Bool}(h:0<=q):a3B [] d pl q=q:=by unfold a3B;rw[if_neg (by omega)];rfl
theorem c03{d q:Int}(h:0<=q):a4f [] d q=q:=by unfold a4f;rw[if_neg (by omega)];rfl
theorem b6d{x:Pr}{r:List Pr}{d q:Int}{pl:Bool}(h:0<=q):a3B (x::r) d pl q=a3B r d pl (L5 (G9 x d pl q)):=by
 unfold a3B;rw[if_neg (by omega)];have e:S8 (x::r) d pl q=if(G9 x d pl q).1 then S8 r d pl (G9 x d pl q).2 else G9 x d pl q:=rfl
 rw[e];cases hc:(G9 x d pl q).1 with
 |true=>
  have:=a8Y h hc;have hv:L5 (G9 x d pl q)=(G9 x d pl q).2:=by unfold L5;rw[if_pos hc]
  rw[if_pos rfl,hv,if_neg (by omega)]
 |false=>
  have hv:L5 (G9 x d pl q)=-1:=by unfold L5;rw[if_neg (by rw[hc];decide)]
  rw[if_neg (by decide),hv];rfl
theorem b7A{g:Gu}{x:Pr}{r:List Gu}{d q:Int}(h:0<=q)(hx:g.bl[0]?=some x):a4f (g::r) d q=a4f r d (L5 (G9 x d false q)):=by
 unfold a4f;rw[if_neg (by omega)];have e0:a2n g d q=G9 x d false q:=by
  rw[a5r];cases hb:g.bl with
  |nil=>rw[hb]at hx;cases hx
  |cons y t=>rw[hb]at hx;cases hx;rfl
 have e:a2d (g::r) d q=if(G9 x d false q).1 then a2d r d (G9 x d false q).2 else G9 x d false q:=by rw[<-e0];rfl
 rw[e];cases hc:(G9 x d false q).1 with
 |true=>
  have:=a8Y h hc;have hv:L5 (G9 x d false q)=(G9 x d false q).2:=by unfold L5;rw[if_pos hc]
  rw[if_pos rfl,hv,if_neg (by omega)]
 |false=>
  have hv:L5 (G9 x d false q)=-1:=by unfold L5;rw[if_neg (by rw[hc];decide)]
  rw[if_neg (by decide),hv];rfl
theorem b1t:∀l:List Pr,l.length<=O2 l
 | []=>Nat.le_refl _
 |x::r=>by
  have h1:=b1t r;have h2:=a2L x;show r.length+1<=P6 x+O2 r;omega
theorem c0V{l:List Pr}{d q:Int}{pl:Bool}(h0:0<=q)(h:q<l.length):(S8 l d pl q).1=false:=by
 cases hc:(S8 l d pl q).1 with
 |false=>rfl
 |true=>obtain⟨_,h2,h3⟩:=a5w h0 (λx _ d pl q hq hx=>a2Z x d pl q hq hx) hc;have:=b1t l;omega
theorem b2q(k:Int):(B5 k).1.p1<=2048/\(b3D (B5 k).1).p1<=2048:=by
 by_cases hk:1<=k/\k<=18
 ·have:k=1\/k=2\/k=3\/k=4\/k=5\/k=6\/k=7\/k=8\/k=9\/k=10\/k=11\/k=12\/k=13\/k=14\/k=15\/k=16\/k=17\/k=18:=by omega
  rcases this with h|h|h|h|h|h|h|h|h|h|h|h|h|h|h|h|h|h<;>rw[h]<;>decide
 ·have:B5 k=(us0,false):=by
   unfold B5;repeat rw[if_neg (by omega)]
  rw[this];decide
theorem b9V{p:Pr}(h:L1 p=true):p.ll.length<=2048:=by
 have hV:=a0H h;by_cases hr:p.rep.name=[]
 ·have h1:=(hV.pn hr).2
  have:=(b2q p.k).1;omega
 ·unfold L1 at h
  have h2:=hV.rp hr;have h3:(p.rep.name !=[])=true:=by simpa using hr
  rw[hV.kd,hV.rep,h3,h2]at h;simp only[Bool.not_true,Bool.or_self,Bool.false_eq_true,if_false,if_true]at h;have h4:=b1Q (plU h).1.1.1;have:=(b2q p.k).2;omega
theorem b9Z{p:Pr}(h:L1 p=true):a0r p=true:=by unfold a0r;rw[if_pos (b9V h),h]
theorem b3S{p:Pr}(h:a0r p=true):L1 p=true\/(L1 p=false/\2048<p.ll.length/\(p.k=8\/p.k=9)/\p.gl=[]):=by
 cases hp:L1 p with
 |true=>exact .inl rfl
 |false=>
  right
  unfold a0r at h;split at h
  ·rw[hp]at h;cases h
  ·rename_i hl
   unfold b0h at h;split at h
   ·rename_i hk
    simp only[Bool.and_eq_true]at h;have hg:=h.1.1.2;rw[I2]at hg;exact⟨rfl,by omega,hk,List.isEmpty_iff.1 hg⟩
   ·cases h
theorem c5h{s:Sp}(h:s.k≠4):(a0x s).cs=false:=by
 unfold a0x;split
 ·rfl
 split
 ·rfl
 split
 ·rfl
 rfl
theorem c5I{s:Sp}(hk:s.k<=5)(h1:1<=s.k)(h:s.k≠5):(a0x s).bl.length=0:=by
 unfold a0x;split
 ·rfl
 split
 ·rfl
 split
 ·rfl
 split
 ·rfl
 ·omega
theorem c9R{s:Sp}(h:spP s=true)(h4:s.k≠4):s.cs=false:=by have hV:=a6P h;unfold spP at h;rw[if_pos hV.kd]at h;simp only[Bool.and_eq_true]at h;have h2:=h.2;unfold J9 at h2;simp only[Bool.and_eq_true,beq_iff_eq]at h2;rw[h2.1.1.1.2,c5h h4]
theorem c9L{s:Sp}(h:spP s=true)(h5:s.k≠5):s.bl=[]:=by have hV:=a6P h;unfold spP at h;rw[if_pos hV.kd]at h;simp only[Bool.and_eq_true]at h;have h2:=h.2;unfold J9 at h2;simp only[Bool.and_eq_true,beq_iff_eq]at h2;have h3:=h2.2;rw[c5I hV.kd.2 hV.kd.1 h5]at h3;exact List.eq_nil_of_length_eq_zero (by omega)
theorem c2m{p:Pr}{d left:Int}{pl:Bool}(h:(((decide (d>32)||(left==0))||!(a0r p))||((p.k==11)&&!pl))=true):L5 (G9 p d pl left)=-1:=by
 have hh:U2 p d pl left=true:=by
  unfold U2;simp only[Bool.or_eq_true,Bool.and_eq_true,decide_eq_true_eq,beq_iff_eq,Bool.not_eq_true']at h⊢;rcases h with((h|h)|h)|h
  ·exact .inl (.inl (.inr h))
  ·exact .inl (.inl (.inl (by omega)))
  ·left;right
   cases hp:L1 p with
   |false=>rfl
   |true=>rw[b9Z hp]at h;cases h
  ·exact .inr h
 rw[a4E,hh];rfl
theorem b9L{p:Pr}{d left:Int}{pl:Bool}(hd:d<=32)(h1:1<=left)(h2:left<=2048)(ho:a0r p=true)(h11:((p.k==11)&&!pl)=false) :
 L5 (G9 p d pl left)=a4f p.gl (d+2) (a3B p.ll (if p.k=18 then d else if p.k=11 then d+2 else d+1) (pl&&(p.k==18)) (if p.k=18 then L5 (W6 p.sp d (left-1))else left-1)):=by
 rcases b3S ho with hp|⟨hp,hl,hk,_⟩
 ·have hh:U2 p d pl left=false:=by
   unfold U2;rw[hp,h11];simp;omega
  rw[a4E,hh,if_neg (by decide)];have step:∀(l:List Pr)(b:Int)(pl:Bool)(q:Int),0<=q->L5 (if(S8 l b pl q).1 then a2d p.gl (d+2) (S8 l b pl q).2 else S8 l b pl q)=a4f p.gl (d+2) (a3B l b pl q):=λl b pl q hq=>by
   have e:a3B l b pl q=L5 (S8 l b pl q):=by unfold a3B;rw[if_neg (by omega)]
   rw[e];cases hc:(S8 l b pl q).1 with
   |true=>
    obtain⟨_,e2,e3⟩:=a5w hq (λx _ d pl q hq hx=>a2Z x d pl q hq hx) hc;have hv:L5 (S8 l b pl q)=(S8 l b pl q).2:=by unfold L5;rw[if_pos hc]
    rw[if_pos rfl,hv];unfold a4f;rw[if_neg (by omega)]
   |false=>
    have hv:L5 (S8 l b pl q)=-1:=by unfold L5;rw[if_neg (by rw[hc];decide)]
    rw[if_neg (by decide),hv];rfl
  by_cases h18:p.k=18
  ·rw[if_pos h18,if_pos h18,if_pos h18,show(p.k==18)=true by rw[h18];rfl,Bool.and_true]
   have hV:=a0H hp;have hsl:p.sp.bl.length<=1:=c2W (hV.sp (by rw[h18];rfl));cases hS:(W6 p.sp d (left-1)).1 with
   |true=>
    have hr:0<=(W6 p.sp d (left-1)).2:=by
     rw[a5Z]at hS⊢;split at hS
     ·cases hS
     ·rename_i hc
      rw[if_neg hc];exact(a6R (by omega) hsl (λx _ d pl q hq hx=>a2Z x d pl q hq hx) hS).2.2
    have hv:L5 (W6 p.sp d (left-1))=(W6 p.sp d (left-1)).2:=by unfold L5;rw[if_pos hS]
    rw[if_pos rfl,hv];exact step _ _ _ _ hr
   |false=>
    have hv:L5 (W6 p.sp d (left-1))=-1:=by unfold L5;rw[if_neg (by rw[hS];decide)]
    rw[if_neg (by decide),hv];rfl
  ·rw[if_neg h18,if_neg h18,if_neg h18,show(p.k==18)=false by simpa using h18,Bool.and_false]
   exact step _ _ _ _ (by omega)
 ·have hh:U2 p d pl left=true:=by unfold U2;rw[hp];simp
  have h18:p.k≠18:=by omega
  rw[a4E,hh,if_pos rfl,if_neg h18,if_neg h18];have hq:a3B p.ll (if p.k=11 then d+2 else d+1) (pl&&(p.k==18)) (left-1)=-1:=by unfold a3B;rw[if_neg (by omega)];unfold L5;rw[if_neg (by rw[c0V (by omega) (by omega)];decide)]
  rw[hq];rfl
end
end Go.Pc
namespace Go.Sx
section
open Go.Eng Go.Pc Go
open Go.Xp hiding B C9
open Go.Ly (Rw)
end
end Go.Sx

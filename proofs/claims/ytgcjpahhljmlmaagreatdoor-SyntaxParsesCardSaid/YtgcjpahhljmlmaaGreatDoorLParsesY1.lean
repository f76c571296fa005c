import Derived.WalkKit
import Derived.OrdersIn
import Derived.Sort.LoopGhostIn
import Derived.RangeFuncRecord
import Derived.Orders
import Derived.ProofKit
import Derived.SizedLaws
import Derived.Lib.SmallJoins
import Derived.Laws.StructEq
import Derived.LaidLaws
import Derived.ChangeMaps5
import Derived.Lib.ConvBytes
import Derived.Laws.AppendOwn
import Derived.Lib.AppendIntMem
set_option linter.defProp false
abbrev qa:=@Bool.and_eq_true
abbrev qb:=@List.drop_eq_nil_of_le
abbrev qc:=@List.sublist_append_right
abbrev qd:=@List.getElem?_eq_some_iff
abbrev qe:=@List.mem_of_getElem?
abbrev qf:=@Nat.ne_of_beq_eq_false
abbrev qg:=@List.sublist_append_left
abbrev qh:=@List.length_append
abbrev qi:=@Nat.zero_le
abbrev qj:=@List.append_assoc
abbrev qk:=@List.getElem?_eq_getElem
abbrev ql:=@List.getD_eq_getElem?_getD
abbrev qm:=@List.Mem.head
abbrev qn:=@List.not_mem_nil
abbrev qo:=@List.sublist_cons_self
abbrev qp:=@Bool.false_eq_true
abbrev qq:=@List.drop_eq_getElem_cons
abbrev qr:=@Nat.le_trans
abbrev qs:=@Option.some.injEq
abbrev qt:=@List.mem_cons_of_mem
abbrev qu:=@Nat.succ_pos
abbrev qv:=@Bool.or_eq_true
abbrev qw:=@decide_eq_true_eq
abbrev qx:=@List.length_drop
abbrev qy:=@List.mem_singleton
abbrev qz:=@Nat.le_refl
abbrev qA:=@Bool.or_eq_false_iff
abbrev qB:=@List.eq_nil_of_length_eq_zero
abbrev qC:=@List.take_of_length_le
abbrev qD:=@List.Mem.tail
abbrev qE:=@List.mem_append_right
abbrev qF:=@List.Perm.swap
abbrev qG:=@Bool.true_and
abbrev qH:=@Bool.eq_iff_iff
abbrev qI:=@Nat.zero_add
abbrev qJ:=@List.length_cons
abbrev qK:=@Bool.not_eq_true'
abbrev qL:=@List.perm_middle
abbrev qM:=@Option.some.inj
abbrev qN:=@List.cons_append
abbrev qO:=@List.length_singleton
abbrev qP:=@List.length_map
abbrev qQ:=@List.mem_cons
abbrev qR:=@List.pairwise_cons
abbrev qS:=@List.getElem?_eq_none
abbrev qT:=@List.singleton_append
abbrev qU:=@beq_iff_eq
abbrev qV:=@List.length_take
abbrev qW:=@beq_eq_false_iff_ne
abbrev qX:=@List.Sublist.trans
abbrev qY:=@List.mem_append
abbrev qZ:=@List.map_append
abbrev za:=@Bool.and_true
abbrev zb:=@Nat.eq_of_beq_eq_true
abbrev zc:=@List.all_eq_true
abbrev zd:=@decide_eq_false
abbrev ze:=@Nat.lt_or_ge
abbrev zf:=@Bool.not_false
abbrev zg:=@List.length_tail
abbrev zh:=@decide_eq_true
abbrev zi:=@List.Sublist.refl
abbrev zj:=@List.map_singleton
abbrev zk:=@Array.getElem?_setIfInBounds_ne
abbrev zl:=@Bool.true_or
abbrev zm:=@List.getElem?_cons_succ
abbrev zn:=@Array.getElem?_eq_some_iff
abbrev zo:=@List.map_cons
abbrev zp:=@Bool.or_false
abbrev zq:=@of_decide_eq_true
abbrev zt:=@List.getElem?_append_left
abbrev zu:=@Bool.false_and
abbrev zv:=@Nat.add_mul
abbrev zw:=@Nat.mul_le_mul_right
abbrev zx:=@List.mem_cons_self
abbrev zy:=@Bool.not_eq_false'
abbrev zz:=@of_decide_eq_false
abbrev zA:=@Decidable.byContradiction
abbrev zB:=@Bool.and_false
abbrev zC:=@Bool.false_or
abbrev zD:=@List.tail_cons
abbrev zF:=@List.append_nil
abbrev zH:=@List.nil_sublist
abbrev zI:=@beq_self_eq_true
abbrev zK:=@List.getElem?_append_right
abbrev zL:=@List.getElem?_drop
abbrev zO:=@List.nil_append
abbrev zQ:=@List.length_nil
abbrev zR:=@List.length_pos_iff
abbrev zT:=@List.perm_append_comm_assoc
abbrev zW:=@Bool.or_true
abbrev zX:=@Bool.not_true
abbrev zY:=@Nat.succ_le_succ
abbrev zZ:=@List.take_zero
abbrev z1:=@Int.fdiv_eq_ediv_of_nonneg
abbrev z2:=@Array.getElem?_eq_getElem
abbrev z3:=@Nat.pow_le_pow_right
abbrev z4:=@Int.le_refl
abbrev z5:=@List.mem_of_mem_drop
abbrev z6:=@Option.isSome_iff_exists
abbrev z7:=@Nat.lt_succ_iff_lt_or_eq
abbrev z9:=@List.head_eq_of_cons_eq
abbrev ja:=@List.getElem?_take
abbrev jb:=@List.mem_map
abbrev jc:=@List.dropWhile_sublist
abbrev jd:=@Nat.add_assoc
abbrev je:=@List.perm_append_comm
abbrev jf:=@Array.getElem?_toList
abbrev jh:=@List.getElem?_map
abbrev ji:=@Nat.mul_comm
abbrev jj:=@List.isEmpty_nil
abbrev jk:=@Bool.beq_comm
abbrev Oa:=Option Go.Addr
abbrev Lv:=List Go.Value
abbrev Pw:=Go.Act->Go.World->Prop
abbrev Lo:=List Go.Oper
section
namespace Go.Eng
open Go Go.RowKit
structure Cx where
 num:Nat
 ro:Option Nat:=none
 ds:List Deferred:=[]
instance:Coe Cx Nat:=⟨Cx.num⟩
def fen(ro:Option Nat):Fence:={ Fence.wide with round:=ro }
def a0K(Q:Exit->Pw):Exit->Pw
 | .outgrown,_,_=>False
 |e,a,w=>Q e a w
theorem a5d{Q:Exit->Pw}{e:Exit}{a:Act}{w:World}(h:a0K Q e a w):Q e a w:=by cases e<;>first|exact h|exact h.elim
theorem b9n{K:Pw}{Q:Exit->Pw}{e:Exit}{a:Act}{w:World}(h:a0K (Exit.then K Q) e a w):Exit.then K (a0K Q) e a w:=by cases e<;>exact h
theorem b6j{id:Nat}{Q:Exit->Pw}{e:Exit}{a:Act}{w:World}(h:a0K (Exit.inBlock id Q) e a w):Exit.inBlock id (a0K Q) e a w:=by
 cases e with
 |exit k=>have h':Exit.inBlock id Q (.exit k) a w:=h;unfold Exit.inBlock at h'⊢;split at h'<;>rename_i e1<;>simp_all [a0K]
 |_=>exact h
theorem a9N{Q:Exit->Pw}:¬LetsOut (a0K Q):=λ⟨_,_,h⟩=>h
def a0Z(o:Oper):Bool:=match o.op with|.defer _=>false|_=>true
theorem b5c{o:Oper}(h:a0Z o=true)(r:Option Nat)(ρ:Operand->Value):o.semAt r ρ=execOp ρ o:=
 Oper.semAt_eq r ρ o λc e=>by unfold a0Z at h;rw[e]at h;cases h
theorem b4w{P:Program}{o:Oper}{a:Act}{w:World}{K K':Pw}{Q:Exit->Pw}{r:Option Nat}(hp:a0Z o=true)(hk:∀a w,K a w->K' a w)
 (h:o.wp P a w K (a0K Q)):o.wpIn (fen r) 0 P a w K' (a0K Q):=by
 refine⟨λ_ _=>trivial,?_⟩;show o.uponIn (fen r) 0 P a K' (a0K Q) ((o.semAt r a.eval).run P w);rw[b5c hp];unfold Oper.wp at h;generalize (execOp a.eval o).run P w=q at h⊢;cases q with
 |ok x w'=>
  cases x<;>simp only[Oper.upon,Oper.uponIn]at h⊢
  case value=>exact hk _ _ h
  case skip=>exact hk _ _ h
  case defer=>exact hk _ _ h
  case enter=>
   refine⟨λhh=>(by cases hh),callsIn_wide.2 (Calls.mono h ?_)⟩;intro e w'' he;cases e with
   |returned v=>exact hk _ _ he
   |panicked c=>exact he
   |outgrown=>exact(a9N he).elim
  case row=>refine⟨λhh=>(by cases hh),λc cs _=>?_⟩;obtain⟨v,w2,hv,hst⟩:=h c cs;exact⟨v,w2,hk _ _ hv,stepsIn_wide.2 hst⟩
 |halt x w'=>cases x<;>simp only[Oper.upon,Oper.uponIn]at h⊢ <;> exact h
theorem a5W{P:Program}{ops:Array Oper}{Q:Exit->Pw}{r:Option Nat}(hp:∀(i:Nat)(o:Oper),ops[i]?=some o->a0Z o=true) :
 ∀(l:List Nat)(a:Act)(w:World),wpOps P ops (a0K Q) l a w->wpOpsIn (fen r) 0 P ops (a0K Q) l a w
 | [],_,_,h=>h
 |i::l,a,w,h=>by
  simp only[wpOps,wpOpsIn]at h⊢;cases ho:ops[i]? with
  |none=>simp only[ho]at h⊢;exact a5W hp l a w h
  |some o=>
   simp only[ho]at h⊢;split
   ·rename_i hw
    rw[if_pos hw]at h;rcases h with h|⟨_,h⟩
    ·exact b4w (hp i o ho) (a5W hp l) h
    ·exact(a9N h).elim
   ·rename_i hw
    rw[if_neg hw]at h;exact⟨λ_ _=>trivial,a5W hp l _ w h⟩
theorem a6D{P:Program}{ops:Array Oper}{Q:Exit->Pw}{r:Option Nat} :
 ∀(l:Lo)(a:Act)(w:World),(∀o∈l,a0Z o=true)->wpList P ops (a0K Q) l a w->wpListIn (fen r) 0 P ops (a0K Q) l a w
 | [],_,_,_,h=>h
 |o::l,a,w,hp,h=>by
  simp only[wpList,wpListIn]at h⊢;split
  ·rename_i hw
   rw[if_pos hw]at h;rcases h with h|⟨_,h⟩
   ·exact b4w (hp o (by simp)) (λa w h=>a6D l a w (λo ho=>hp o (by simp[ho])) h) h
   ·exact(a9N h).elim
  ·rename_i hw
   rw[if_neg hw]at h;exact⟨λ_ _=>trivial,a6D l _ w (λo ho=>hp o (by simp[ho])) h⟩
structure View where
 blk:Nat->Option Obj
 os:Os
 out:Array (Nat×ByteArray)
 tape:Nat->Question->Nat
structure View.le(m m':View):Prop where
 os:m'.os=m.os
 out:m'.out=m.out
 tape:m'.tape=m.tape
 blk:∀b o,m.blk b=some o->m'.blk b=some o
theorem View.le.refl(m:View):m.le m:=⟨rfl,rfl,rfl,λ_ _ h=>h⟩
theorem View.le.trans{a b c:View}(h:a.le b)(k:b.le c):a.le c:=
 ⟨k.os.trans h.os,k.out.trans h.out,k.tape.trans h.tape,λi o e=>k.blk i o (h.blk i o e)⟩
def View.cell(m:View)(a:Addr):Option Value:=
 match m.blk a.block with
 |some (.cells c _ _)=>if a.spot.isSome then none else c[a.off]?
 |_=>none
theorem View.le.cell{m m':View}(h:m.le m'){a:Addr}{v:Value}(hc:m.cell a=some v):m'.cell a=some v:=by
 unfold View.cell at *;cases hb:m.blk a.block with
 |none=>simp[hb]at hc
 |some o=>rw[h.blk _ _ hb];simpa [hb]using hc
def View.add(m:View)(b:Nat)(o:Obj):View:={ m with blk:=λk=>if k=b then some o else m.blk k }
theorem View.le_add{m:View}{b:Nat}{o:Obj}(h:m.blk b=none):m.le (m.add b o):=
 ⟨rfl,rfl,rfl,λk o' hk=>by
  show(if k=b then some o else m.blk k)=some o';rw[if_neg (λe=>by rw[e,h]at hk;cases hk)];exact hk⟩
theorem View.add_blk(m:View)(b:Nat)(o:Obj):(m.add b o).blk b=some o:=if_pos rfl
inductive Res where
 |pt (b:Nat) (o:Obj)
 |row (v:Value) (e:TypeId) (sz n:Nat) (xs:Lv)
abbrev _root_.Lr:=List Res
def Res.fp:Res->Option Nat
 | .pt b _=>some b
 | .row v _ _ _ _=>v.ownBlock
def Res.ok(w:World):Res->Prop
 | .pt b o=>w.heap[b]?=some o
 | .row v e sz n xs=>w.ownsRow 0 e sz v n xs
def Res.apart(r s:Res):Prop:=∀b,r.fp=some b->s.fp=some b->False
theorem Res.apart_symm{r s:Res}(h:r.apart s):s.apart r:=λb h1 h2=>h b h2 h1
theorem a0F{w:World}{b:Nat}{o:Obj}(h:w.heap[b]?=some o):b<w.heap.size:=by
 rcases ze b w.heap.size with h'|h'
 ·exact h'
 ·simp[Array.getElem?_eq_none h']at h
theorem a7G(w:World)(o:Obj)(i:Nat)(h:i<w.heap.size):(w.alloc o).heap[i]?=w.heap[i]?:=by show(w.heap.push o)[i]?=w.heap[i]?;rw[Array.getElem?_push,if_neg (Nat.ne_of_lt h)]
theorem a5Y(w:World)(o:Obj):(w.alloc o).heap[w.heap.size]?=some o:=by show(w.heap.push o)[w.heap.size]?=some o;simp
theorem Res.lt{w:World}{r:Res}(h:r.ok w):∀b,r.fp=some b->b<w.heap.size:=by
 intro b hb;cases r with
 |pt c o=>simp only[Res.fp,qs]at hb;subst hb;exact a0F h
 |row v e sz n xs=>exact(World.ownsRow.lt h b hb).2
theorem Res.ok_of_block{w w':World}{r:Res}(h:r.ok w)(hs:∀b,r.fp=some b->w'.heap[b]?=w.heap[b]?):r.ok w':=by
 cases r with
 |pt c o=>exact(hs c rfl).trans h
 |row v e sz n xs=>
  obtain⟨h1,h2⟩:=h;refine⟨h1,?_⟩;rcases h2 with h2|⟨g,cap,cur,hv,hg,hh,r⟩
  ·exact .inl h2
  ·subst hv
   exact .inr ⟨g,cap,cur,rfl,hg,(hs g rfl).trans hh,r⟩
structure St(m:View)(h:Lr)(w:World):Prop where
 os:w.os=m.os
 out:w.output=m.out
 tape:w.tape=m.tape
 blk:∀b o,m.blk b=some o->w.heap[b]?=some o
 ok:∀r∈h,r.ok w
 nd:h.Pairwise Res.apart
 fr:∀r∈h,∀b,r.fp=some b->m.blk b=none
theorem St.cell{m:View}{h:Lr}{w:World}(s:St m h w){a:Addr}{v:Value}(hc:m.cell a=some v):w.cell? a=some v:=by
 unfold View.cell at hc;cases hb:m.blk a.block with
 |none=>simp[hb]at hc
 |some o=>have hw:=s.blk _ _ hb;rw[hb]at hc;unfold World.cell?;rw[hw];cases o<;>simp_all
theorem St.drew{m:View}{h:Lr}{w:World}(s:St m h w):St m h w.drew:=
 ⟨s.os,s.out,s.tape,s.blk,λr hr=>Res.ok_of_block (s.ok r hr) λ_ _=>rfl,s.nd,s.fr⟩
theorem St.sub{m:View}{h h':Lr}{w:World}(s:St m h w)(hs:h'.Sublist h):St m h' w:=
 ⟨s.os,s.out,s.tape,s.blk,λr hr=>s.ok r (hs.subset hr),s.nd.sublist hs,λr hr=>s.fr r (hs.subset hr)⟩
theorem St.perm{m:View}{h h':Lr}{w:World}(s:St m h w)(hs:h.Perm h'):St m h' w:=
 ⟨s.os,s.out,s.tape,s.blk,λr hr=>s.ok r (hs.mem_iff.2 hr),(hs.pairwise_iff (λ{_ _} e=>Res.apart_symm e)).1 s.nd,λr hr=>s.fr r (hs.mem_iff.2 hr)⟩
theorem St.alloc{m:View}{h:Lr}{w:World}(s:St m h w)(o:Obj):St m (.pt w.heap.size o::h) (w.alloc o) where
 os:=s.os
 out:=s.out
 tape:=s.tape
 blk b o' hb:=by have h1:=s.blk b o' hb;have:=a0F h1;rw[a7G _ _ _ this];exact h1
 ok r hr:=by
  cases hr with
  |head=>exact a5Y w o
  |tail _ hr=>have h1:=s.ok r hr;exact Res.ok_of_block h1 λb hb=>a7G _ _ _ (Res.lt h1 b hb)
 nd:=by refine qR.2 ⟨λr hr b hb hb'=>?_,s.nd⟩;simp only[Res.fp,qs]at hb;have:=Res.lt (s.ok r hr) b hb';omega
 fr r hr b hb:=by
  cases hr with
  |head=>
   simp only[Res.fp,qs]at hb;cases hm:m.blk b with
   |none=>rfl
   |some o'=>have:=a0F (s.blk b o' hm);omega
  |tail _ hr=>exact s.fr r hr b hb
inductive Upd:Lr->Res->Res->Lr->Prop
 |here {r r':Res} {t:Lr}:Upd (r::t) r r' (r'::t)
 |next {r r' x:Res} {t t':Lr} (h:Upd t r r' t'):Upd (x::t) r r' (x::t')
theorem Upd.split{h h':Lr}{r r':Res}(u:Upd h r r' h'):∃l1 l2,h=l1++r::l2/\h'=l1++r'::l2:=by
 induction u with
 | @here r r' t=>exact⟨[],t,rfl,rfl⟩
 | @next r r' x t t' _ ih=>obtain⟨l1,l2,rfl,rfl⟩:=ih;exact⟨x::l1,l2,rfl,rfl⟩
theorem Upd.mem{h h':Lr}{r r':Res}(u:Upd h r r' h'):r∈h:=by obtain⟨l1,l2,rfl,_⟩:=u.split;simp
theorem St.upd{m:View}{h h':Lr}{w w':World}{r r':Res}(s:St m h w)(u:Upd h r r' h')
 (hos:w'.os=w.os) (hout:w'.output=w.output) (htape:w'.tape=w.tape)
 (hsame:∀b,b<w.heap.size->r.fp≠some b->w'.heap[b]?=w.heap[b]?) (hok:r'.ok w')
 (hfp:∀b,r'.fp=some b->r.fp=some b\/w.heap.size<=b):St m h' w':=by
 obtain⟨l1,l2,rfl,rfl⟩:=u.split;have hrm:r∈l1++r::l2:=by simp
 obtain⟨n1,n23,n12⟩:=List.pairwise_append.1 s.nd;obtain⟨n2,n3⟩:=qR.1 n23;have old:∀x∈l1++l2,x∈l1++r::l2:=by intro x hx;simp at hx⊢;rcases hx with h|h<;>simp[h]
 have ap:∀x∈l1++l2,r.apart x:=by
  intro x hx;rcases qY.1 hx with h|h
  ·exact Res.apart_symm (n12 x h r (by simp))
  ·exact n2 x h
 have ap':∀x∈l1++l2,r'.apart x:=by
  intro x hx b hb hb';rcases hfp b hb with h|h
  ·exact ap x hx b h hb'
  ·have:=Res.lt (s.ok x (old x hx)) b hb'
   omega
 have mid:∀x∈l1++r'::l2,x=r'\/x∈l1++l2:=by
  intro x hx;rcases qY.1 hx with h|h
  ·exact .inr (qY.2 (.inl h))
  ·rcases qQ.1 h with h|h
   ·exact .inl h
   ·exact .inr (qY.2 (.inr h))
 refine⟨hos.trans s.os,hout.trans s.out,htape.trans s.tape,λb o hb=>?_,λx hx=>?_,?_,λx hx b hb=>?_⟩
 ·have h1:=s.blk b o hb
  rw[hsame b (a0F h1) (λe=>by rw[s.fr r hrm b e]at hb;cases hb)];exact h1
 ·have:x=r'\/x∈l1++l2:=mid x hx
  rcases this with rfl|hx
  ·exact hok
  ·have h1:=s.ok x (old x hx)
   exact Res.ok_of_block h1 λb hb=>hsame b (Res.lt h1 b hb) λe=>ap x hx b e hb
 ·refine List.pairwise_append.2 ⟨n1,qR.2 ⟨λx hx=>ap' x (by simp[hx]),n3⟩,λx hx y hy=>?_⟩
  rcases qQ.1 hy with rfl|hy
  ·exact Res.apart_symm (ap' x (by simp[hx]))
  ·exact n12 x hx y (by simp[hy])
 ·have:x=r'\/x∈l1++l2:=mid x hx
  rcases this with rfl|hx
  ·rcases hfp b hb with h|h
   ·exact s.fr r hrm b h
   ·cases hm:m.blk b with
    |none=>rfl
    |some o'=>have:=a0F (s.blk b o' hm);omega
  ·exact s.fr x (old x hx) b hb
abbrev Fm:=List (Nat×Value)
def look:Fm->Nat->Option Value
 | [],_=>none
 |(k,v)::r,t=>match Nat.beq k t with
  |true=>some v
  |false=>look r t
structure Fr(n:Cx)(F:Fm)(a:Act):Prop where
 d:a.defers=n.ds
 sz:a.tmps.size=n.num
 get:∀t v,look F t=some v->a.tmps[t]?=some v
theorem Fr.getD{n:Cx}{F:Fm}{a:Act}(h:Fr n F a){t:Nat}{v:Value}(hl:look F t=some v):a.tmps.getD t undef=v:=by have:=h.get t v hl;simp[this]
theorem Fr.put{n:Cx}{F:Fm}{a:Act}(h:Fr n F a){d:Nat}(hd:d<n.num)(v:Value):Fr n ((d,v)::F) (a.put (some d) v):=by
 refine⟨h.d,by simpa [Act.put]using h.sz,λt u ht=>?_⟩;simp only[look]at ht;cases hb:Nat.beq d t with
 |true=>rw[hb]at ht;have e:d=t:=zb hb;subst e;simp only[qs]at ht;subst ht;simp[Act.put,h.sz,hd]
 |false=>rw[hb]at ht;have ne:d≠t:=qf hb;simp only[Act.put,zk ne];exact h.get t u ht
def a3A(F:Fm):List Nat->Option Fm
 | []=>some []
 |t::ts=>match a3A F ts with
  |some r=>match look F t with
   |some v=>some ((t,v)::r)
   |none=>some r
  |none=>none
theorem a8c{F:Fm}:∀{ts:List Nat}{F':Fm},a3A F ts=some F'->∀t v,look F' t=some v->look F t=some v
 | [],F',h,t,v,hl=>by simp only[a3A,qs]at h;subst h;simp[look]at hl
 |s::ts,F',h,t,v,hl=>by
  simp only[a3A]at h;cases h2:a3A F ts with
  |none=>simp[h2]at h
  |some r=>
   cases h1:look F s with
   |none=>simp only[h1,h2,qs]at h;subst h;exact a8c h2 t v hl
   |some u=>
    simp only[h1,h2,qs]at h;subst h;simp only[look]at hl;cases hb:Nat.beq s t with
    |true=>rw[hb]at hl;have e:s=t:=zb hb;subst e;simp only[qs]at hl;subst hl;exact h1
    |false=>rw[hb]at hl;exact a8c h2 t v hl
theorem Fr.sub{n:Cx}{F F':Fm}{a:Act}(h:Fr n F a)(hs:∀t v,look F' t=some v->look F t=some v):Fr n F' a:=
 ⟨h.d,h.sz,λt v ht=>h.get t v (hs t v ht)⟩
inductive Sub(F:Fm):Fm->Prop
 |nil:Sub F []
 |cons {t:Nat} {v:Value} {r:Fm} (h:look F t=some v) (k:Sub F r):Sub F ((t,v)::r)
theorem Sub.look{F F':Fm}(h:Sub F F'):∀t v,look F' t=some v->look F t=some v:=by
 induction h with
 |nil=>intro t v ht;simp[Eng.look]at ht
 | @cons s u r h _ ih=>
  intro t v ht;simp only[Eng.look]at ht;cases hb:Nat.beq s t with
  |true=>rw[hb]at ht;have e:s=t:=zb hb;subst e;simp only[qs]at ht;subst ht;exact h
  |false=>rw[hb]at ht;exact ih t v ht
def gv(c:Bool)(v:Value):Value:=match c with|true=>v|false=>undef
structure Ev(n:Cx)(F:Fm)(x:Operand)(v:Value):Prop where
 e:∀a,Fr n F a->a.eval x=v
instance {n:Cx}{F:Fm}{x:Operand}{v:Value}:CoeFun (Ev n F x v) λ_=>∀a,Fr n F a->a.eval x=v:=⟨Ev.e⟩
theorem Ev.tmp{n:Cx}{F:Fm}{t:Nat}{v:Value}(h:look F t=some v):Ev n F (.tmp t) v:=.mk λ_ ha=>ha.getD h
theorem a04{n:Cx}{F:Fm}{t:Nat}{c:Bool}{v:Value}(h:look F t=some (gv c v))(hc:c=true):Ev n F (.tmp t) v:=
 .mk λ_ ha=>by subst hc;exact ha.getD h
theorem Ev.const{n:Cx}{F:Fm}{v:Value}:Ev n F (.const v) v:=.mk λ_ _=>rfl
theorem Ev.func{n:Cx}{F:Fm}{f:FuncId}:Ev n F (.func f) (.func (.func f) #[] #[]):=.mk λ_ _=>rfl
theorem Ev.global{n:Cx}{F:Fm}{g:Nat}:Ev n F (.global g) (.pointer (some ⟨g,0,none⟩)):=.mk λ_ _=>rfl
inductive Evs(n:Cx)(F:Fm):List Operand->Lv->Prop
 |nil:Evs n F [] []
 |cons {x:Operand} {v:Value} {xs:List Operand} {vs:Lv} (h:Ev n F x v) (k:Evs n F xs vs):Evs n F (x::xs) (v::vs)
theorem Evs.map{n:Cx}{F:Fm}{xs:List Operand}{vs:Lv}(h:Evs n F xs vs){a:Act}(ha:Fr n F a):xs.map a.eval=vs:=by
 induction h with
 |nil=>rfl
 |cons h _ ih=>simp[h a ha,ih]
section
variable (P:Program)
structure PO(o:Oper)(n:Cx)(F:Fm)(h:Lr)(m:View)(v:Value):Prop where
 e:∀a w,Fr n F a->St m h w->(execOp a.eval o).run P w=.ok (.value v) w
structure WL(ops:Array Oper)(Q:Exit->Pw)(n:Cx)(l:Lo)(F:Fm)(h:Lr)(m:View):Prop where
 e:∀a w,Fr n F a->St m h w->wpList P ops (a0K Q) l a w
structure WC(c:Code)(Q:Exit->Pw)(n:Cx)(F:Fm)(h:Lr)(m:View):Prop where
 e:∀a w,Fr n F a->St m h w->c.wpIn (fen n.ro) 0 P (a0K Q) a w
def RQ(m:View)(R:Value->View->Lr->Prop)(e:Ending)(w:World):Prop:=
 ∃v m' h',e=.returned v/\m.le m'/\St m' h' w/\R v m' h'
structure CT(f:FuncId)(args:Lv)(h:Lr)(m:View)(R:Value->View->Lr->Prop):Prop where
 enter:∀as w,(callFunc f as).run P w=.ok (.enter f as) w
 calls:∀w,St m h w->Calls P f args.toArray w (RQ m R)
end
section
variable {P:Program}{ops:Array Oper}{Q:Exit->Pw}{n:Cx}{F:Fm}{h:Lr}{m:View}{rest:Lo}
variable {op:Op}{ty:TypeId}{pos:String}{after:Array Edge}{d:Nat}{v:Value}
instance {o:Oper}:CoeFun (PO P o n F h m v) λ_=>∀a w,Fr n F a->St m h w->(execOp a.eval o).run P w=.ok (.value v) w:=⟨PO.e⟩
instance {l:Lo}:CoeFun (WL P ops Q n l F h m) λ_=>∀a w,Fr n F a->St m h w->wpList P ops (a0K Q) l a w:=⟨WL.e⟩
instance {c:Code}:CoeFun (WC P c Q n F h m) λ_=>∀a w,Fr n F a->St m h w->c.wpIn (fen n.ro) 0 P (a0K Q) a w:=⟨WC.e⟩
theorem G7{o:Oper}{a:Act}{w:World}(hw:Region.wanted o (yielded ops a.tmps)=true)(h:o.wp P a w (wpList P ops Q rest) Q):wpList P ops Q (o::rest) a w:=by unfold wpList;rw[if_pos hw];exact .inl h
theorem O5{o:Oper}{a:Act}{w w':World}{K:Pw}{v:Value}(hr:(execOp a.eval o).run P w=.ok (.value v) w')(h:K (a.put o.dst v) w'):o.wp P a w K Q:=by unfold Oper.wp;rw[hr];exact h
theorem a8X{o:Oper}{a:Act}{w w':World}{K:Pw}(hr:(execOp a.eval o).run P w=.ok .skip w')(h:K (a.put o.dst undef) w'):o.wp P a w K Q:=by unfold Oper.wp;rw[hr];exact h
def a3k(ops:Array Oper)(j:Nat):Option Nat:=(ops[j]?).bind (·.dst)
theorem WL.nil(k:∀a w,Fr n F a->St m h w->Q .normal a w):WL P ops Q n [] F h m:=.mk λa w ha hs=>k a w ha hs
theorem c9P(hp:PO P ⟨some d,op,ty,pos,after,none⟩ n F h m v)(hn:d<n.num)(k:WL P ops Q n rest ((d,v)::F) h m) :
 WL P ops Q n (⟨some d,op,ty,pos,after,none⟩::rest) F h m:=.mk λa w ha hs=>
 G7 rfl (O5 (hp a w ha hs) (k _ _ (ha.put hn v) hs))
theorem a4y{j t:Nat}{c:Bool}{a:Act}(hj:a3k ops j=some t)(hc:a.tmps[t]?=some (.bool c)):yielded ops a.tmps j=some c:=by unfold yielded;unfold a3k at hj;simp[hj,hc]
theorem a8u{F':Fm}{ts:List Nat}{A:Pw}(hk:a3A F ts=some F')(k:∀a w,Fr n F' a->St m h w->A a w) :
 ∀a w,Fr n F a->St m h w->A a w:=λa w ha hs=>k a w (ha.sub (a8c hk)) hs
theorem WC.seq{x y:Code}(k:WC P x (Exit.then (y.wpIn (fen n.ro) 0 P (a0K Q)) Q) n F h m):WC P (.seq x y) Q n F h m:=.mk λa w ha hs=>wpIn_seq (wpIn_mono (k a w ha hs) λ_ _ _ q=>b9n q)
theorem c5Y{x y:Code}(k:∀K:Pw,(∀ds F h m,WC P y Q { n with ds:=ds } F h m->∀a w,Fr { n with ds:=ds } F a->St m h w->K a w)->WC P x (Exit.then K Q) n F h m):WC P (.seq x y) Q n F h m:=
 WC.seq (k _ λ_ _ _ _ hy=>hy.e)
theorem toK{K:Pw}{y:Code}(hK:∀ds F h m,WC P y Q { n with ds:=ds } F h m->∀a w,Fr { n with ds:=ds } F a->St m h w->K a w)(k:WC P y Q n F h m):∀a w,Fr n F a->St m h w->K a w:=hK n.ds F h m k
theorem WC.block{id:Nat}{c:Code}(k:WC P c (Exit.inBlock id Q) n F h m):WC P (.block id c) Q n F h m:=.mk λa w ha hs=>wpIn_block (wpIn_mono (k a w ha hs) λ_ _ _ q=>b6j q)
theorem b1u{id:Nat}{l:Lo}{r:Option Nat}{a:Act}{w:World}(hp:∀o∈l,a0Z o=true)(k:wpList P l.toArray (a0K Q) l a w):(Code.region id l.toArray false).wpIn (fen r) 0 P (a0K Q) a w:=
 wpIn_region_lit (a6D l a w hp k)
def b0P:Lo->Option (List (Option Nat))
 | []=>some []
 |⟨some d,_,_,_,_,_⟩::l=>match b0P l with
  |some r=>some (some d::r)
  |none=>none
 |⟨none,_,_,_,_,_⟩::l=>match b0P l with
  |some r=>some (none::r)
  |none=>none
def a9W(l:Lo):Option (List (Option Nat)):=match l.all a0Z with
 |true=>b0P l
 |false=>none
theorem a8P:∀{l:Lo}{G:List (Option Nat)},b0P l=some G->l.map (·.dst)=G
 | [],G,h=>by simp only[b0P,qs]at h;subst h;rfl
 |⟨some d,_,_,_,_,_⟩::l,G,h=>by
  simp only[b0P]at h;cases h1:b0P l with
  |none=>simp[h1]at h
  |some r=>simp only[h1,qs]at h;subst h;simp[a8P h1]
 |⟨none,_,_,_,_,_⟩::l,G,h=>by
  simp only[b0P]at h;cases h1:b0P l with
  |none=>simp[h1]at h
  |some r=>simp only[h1,qs]at h;subst h;simp[a8P h1]
theorem b0F{id:Nat}{l:Lo}{G:List (Option Nat)}(hG:a9W l=some G)(k:∀ops:Array Oper,(∀j t,G[j]?=some (some t)->a3k ops j=some t)->WL P ops Q n l F h m):WC P (.region id l.toArray false) Q n F h m:=.mk λa w ha hs=>
 have hG0:l.all a0Z=true:=by
  unfold a9W at hG;split at hG
  ·assumption
  ·cases hG
 b1u (by simpa using hG0) ((k _ λj t hj=>by
  unfold a9W at hG;rw[hG0]at hG;have hG:=a8P hG;subst hG;unfold a3k;simp only[jh]at hj;simp only[List.getElem?_toArray];cases hl:l[j]? with
  |none=>simp[hl]at hj
  |some o=>simpa [hl]using hj).e a w ha hs)
theorem WC.ret(k:∀a w,Fr n F a->St m h w->Q .ret a w):WC P .ret Q n F h m:=.mk λa w ha hs=>wpIn_ret (k a w ha hs)
theorem WC.skip(k:∀a w,Fr n F a->St m h w->Q .normal a w):WC P .skip Q n F h m:=.mk λa w ha hs=>wpIn_skip (k a w ha hs)
theorem WC.exit{id:Nat}(k:∀a w,Fr n F a->St m h w->Q (.exit id) a w):WC P (.exit id) Q n F h m:=.mk λa w ha hs=>wpIn_exit (k a w ha hs)
theorem WC.cond{c:Operand}{x y:Code}{b:Bool}(hc:Ev n F c (.bool b))(kt:b=true->WC P x Q n F h m)(kf:b=false->WC P y Q n F h m) :
 WC P (.cond c x y) Q n F h m:=.mk λa w ha hs=>wpIn_cond_split (hc a ha) (λe=>kt e a w ha hs) (λe=>kf e a w ha hs)
theorem WC.loop{c:Code}(J:Nat->Fm->Lr->View->Prop)(μ:Nat)(F0:Fm)(hsub:Sub F F0)(h0:J μ F0 h m)
 (round:∀μ F h m,J μ F h m->WC P c (Exit.then (λa w=>∃μ' F' h' m',μ'<μ/\J μ' F' h' m'/\Fr n F' a/\St m' h' w) Q) n F h m) :
 WC P (.loop c) Q n F h m:=by
 refine .mk λa w ha hs=>wpIn_loop_ghost (λμ a w=>∃F h m,J μ F h m/\Fr n F a/\St m h w) μ ⟨F0,h,m,h0,ha.sub hsub.look,hs⟩ ?_
 rintro μ a w ⟨F,h,m,hJ,ha,hs⟩;refine wpIn_mono ((round μ F h m hJ).e a w ha hs) λe a' w' q=>?_
 cases e with
 |normal=>obtain⟨μ',F',h',m',hlt,hJ',ha',hs'⟩:=q;exact⟨μ',hlt,F',h',m',hJ',ha',hs'⟩
 |_=>exact q
end
theorem leB{a b:Nat}(h:Nat.ble a b=true):a<=b:=Nat.le_of_ble_eq_true h
theorem c9O{α:Type}(l:List α):l.Sublist l:=zi l
theorem c9R{α:Type}(l r:List α):r.Sublist (l++r):=qc l r
theorem c8R{α:Type}(l r:List α):l.Sublist (l++r):=qg l r
theorem c9K{α:Type}{l r:List α}(a:α)(h:l.Sublist r):(a::l).Sublist (a::r):=h.cons_cons a
theorem c9M{α:Type}{l r:List α}(a:α)(h:l.Sublist r):l.Sublist (a::r):=h.cons a
theorem c9k{α:Type}{l r:List α}(k:List α)(h:l.Sublist r):l.Sublist (k++r):=h.trans (qc k r)
theorem c8g{α:Type}{a:α}(l:List α):List.Mem a (a::l):=qm l
theorem c8J{α:Type}{a:α}(b:α){l:List α}(h:List.Mem a l):List.Mem a (b::l):=qD b h
section
variable {P:Program}{n:Cx}{F:Fm}{h:Lr}{m:View}
variable {ty:TypeId}{pos:String}{after:Array Edge}{dst:Option Tmp}{g:Option (Nat×Bool)}
theorem PO.move{x:Operand}{v:Value}(e:Ev n F x v):PO P ⟨dst,.move x,ty,pos,after,g⟩ n F h m v:=.mk λa w ha _=>by
 simp[execOp,e a ha]
theorem PO.assign{x:Operand}{v:Value}(e:Ev n F x v):PO P ⟨dst,.assign x,ty,pos,after,g⟩ n F h m v:=.mk λa w ha _=>by
 simp[execOp,e a ha]
theorem a6B{t u:Nat}{c b:Bool}(e:look F t=some (.bool c))(e1:look F u=some (gv c (.bool b))) :
 PO P ⟨dst,.pick (.tmp t) (.tmp u) (.const (.bool false)),ty,pos,after,g⟩ n F h m (.bool (c&&b)):=.mk λa w ha _=>by
 have h1:a.eval (.tmp t)=.bool c:=ha.getD e;have h2:a.eval (.tmp u)=gv c (.bool b):=ha.getD e1;have h3:∀b,a.eval (.const (.bool b))=.bool b:=λ_=>rfl
 simp only[execOp,h1,h2,h3,asBool];cases c<;>rfl
theorem b2c{t u:Nat}{c b:Bool}(e:look F t=some (.bool c))(e1:look F u=some (gv (!c) (.bool b))) :
 PO P ⟨dst,.pick (.tmp t) (.const (.bool true)) (.tmp u),ty,pos,after,g⟩ n F h m (.bool (c||b)):=.mk λa w ha _=>by
 have h1:a.eval (.tmp t)=.bool c:=ha.getD e;have h2:a.eval (.tmp u)=gv (!c) (.bool b):=ha.getD e1;have h3:∀b,a.eval (.const (.bool b))=.bool b:=λ_=>rfl
 simp only[execOp,h1,h2,h3,asBool];cases c<;>rfl
def c0a(k:IntKind)(x y:Int):Int:=k.wrap (BitVec.ofInt k.bits x&&&BitVec.ofInt k.bits y).toNat
def bor(k:IntKind)(x y:Int):Int:=k.wrap (BitVec.ofInt k.bits x|||BitVec.ofInt k.bits y).toNat
def c9Q(k:IntKind)(x y:Int):Int:=k.wrap (BitVec.ofInt k.bits x ^^^ BitVec.ofInt k.bits y).toNat
def c6D(k:IntKind)(x y:Int):Int:=k.wrap (BitVec.ofInt k.bits x &&& ~~~ BitVec.ofInt k.bits y).toNat
def c6x(k:IntKind)(x y:Int):Int:=k.wrap (x*2^min y.toNat k.bits)
def a7i(k:IntKind)(x y:Int):Int:=x.fdiv (2^min y.toNat k.bits)
def iop(op:BinOp)(k:IntKind)(x y:Int):Option Value:=
 match op with
 | .add=>some (.int k (k.wrap (x+y)))
 | .sub=>some (.int k (k.wrap (x-y)))
 | .mul=>some (.int k (k.wrap (x*y)))
 | .and=>some (.int k (c0a k x y))
 | .or=>some (.int k (bor k x y))
 | .xor=>some (.int k (c9Q k x y))
 | .andNot=>some (.int k (c6D k x y))
 | .eql=>some (.bool (x==y))
 | .neq=>some (.bool (x !=y))
 | .lss=>some (.bool (x<y))
 | .leq=>some (.bool (x<=y))
 | .gtr=>some (.bool (x>y))
 | .geq=>some (.bool (x>=y))
 |_=>none
theorem c4f(w:World){op:BinOp}{k:IntKind}{x y:Int}{v:Value}(t:TypeId)(h:iop op k x y=some v):(binOp op t (.int k x) (.int k y)).run P w=.ok v w:=by cases op<;>simp[iop]at h<;>subst h<;>simp[binOp,Op.intArith,Op.intBits,Op.intCmp,c0a,bor,c9Q,c6D]
theorem a0x(w:World)(op:BinOp)(t:TypeId)(x y:Operand)(k k':IntKind)(a b:Int):(eqGuard op t x y (.int k a) (.int k' b)).run P w=.ok () w:=by cases op<;>simp[eqGuard]
theorem O4{op:BinOp}{x y:Operand}{k:IntKind}{i j:Int}{v:Value}{t t':TypeId}(ex:Ev n F x (.int k i))(ey:Ev n F y (.int k j))(hv:iop op k i j=some v) :
 PO P ⟨dst,.binOp op t x y t',ty,pos,after,g⟩ n F h m v:=.mk λa w ha _=>by
 simp[execOp,ex a ha,ey a ha,a0x,c4f w t hv]
theorem K3{x y:Operand}{i j:Int}{t t':TypeId}(ex:Ev n F x (.int .i64 i))(ey:Ev n F y (.int .i64 j))(h1:-9223372036854775808<=i+j/\i+j<=9223372036854775807) :
 PO P ⟨dst,.binOp .add t x y t',ty,pos,after,g⟩ n F h m (.int .i64 (i+j)):=by
 have e:IntKind.i64.wrap (i+j)=i+j:=by rw[IntKind.wrap_i64];omega
 exact O4 ex ey (by simp[iop,e])
theorem P3{x y:Operand}{i j:Int}{t t':TypeId}(ex:Ev n F x (.int .i64 i))(ey:Ev n F y (.int .i64 j))(h1:-9223372036854775808<=i-j/\i-j<=9223372036854775807) :
 PO P ⟨dst,.binOp .sub t x y t',ty,pos,after,g⟩ n F h m (.int .i64 (i-j)):=by
 have e:IntKind.i64.wrap (i-j)=i-j:=by rw[IntKind.wrap_i64];omega
 exact O4 ex ey (by simp[iop,e])
theorem a6G{x y:Operand}{i j:Int}{t t':TypeId}(ex:Ev n F x (.int .i64 i))(ey:Ev n F y (.int .i64 j))(h1:-9223372036854775808<=i*j/\i*j<=9223372036854775807) :
 PO P ⟨dst,.binOp .mul t x y t',ty,pos,after,g⟩ n F h m (.int .i64 (i*j)):=by
 have e:IntKind.i64.wrap (i*j)=i*j:=by rw[IntKind.wrap_i64];omega
 exact O4 ex ey (by simp[iop,e])
theorem PO.rem{x y:Operand}{k:IntKind}{i j:Int}{t t':TypeId}(ex:Ev n F x (.int k i))(ey:Ev n F y (.int k j))(hj:j≠0) :
 PO P ⟨dst,.binOp .rem t x y t',ty,pos,after,g⟩ n F h m (.int k (i.tmod j)):=.mk λa w ha _=>by
 simp[execOp,ex a ha,ey a ha,a0x,binOp,Op.intDiv,hj]
theorem PO.shl{x y:Operand}{k k':IntKind}{i j:Int}{t t':TypeId}(ex:Ev n F x (.int k i))(ey:Ev n F y (.int k' j))(hj:0<=j) :
 PO P ⟨dst,.binOp .shl t x y t',ty,pos,after,g⟩ n F h m (.int k (c6x k i j)):=.mk λa w ha _=>by
 simp[execOp,ex a ha,ey a ha,a0x,binOp,Op.shift,Int.not_lt.2 hj,c6x]
theorem PO.shr{x y:Operand}{k k':IntKind}{i j:Int}{t t':TypeId}(ex:Ev n F x (.int k i))(ey:Ev n F y (.int k' j))(hj:0<=j) :
 PO P ⟨dst,.binOp .shr t x y t',ty,pos,after,g⟩ n F h m (.int k (a7i k i j)):=.mk λa w ha _=>by
 simp[execOp,ex a ha,ey a ha,a0x,binOp,Op.shift,Int.not_lt.2 hj,a7i]
theorem PO.not{x:Operand}{b:Bool}{t:TypeId}(ex:Ev n F x (.bool b)):PO P ⟨dst,.unOp .not t x,ty,pos,after,g⟩ n F h m (.bool (!b)):=.mk λa w ha _=>by
 simp[execOp,ex a ha,Op.unary]
theorem PO.conv{x:Operand}{k k':IntKind}{i:Int}{s t:TypeId}{d:TypeDesc}(hs:P.underlying s=some d)(ht:P.underlying t=some (.int k))(ex:Ev n F x (.int k' i)) :
 PO P ⟨dst,.convert s t x,ty,pos,after,g⟩ n F h m (.int k (k.wrap i)):=.mk λa w ha _=>by
 simp[execOp,ex a ha,convert,run_underlying hs,run_underlying ht,Conv.intToInt]
theorem c6f{x y:Operand}{a b:Bool}{t t':TypeId}(ht:P.underlying t=some .bool)(ex:Ev n F x (.bool a))(ey:Ev n F y (.bool b)) :
 PO P ⟨dst,.binOp .eql t x y t',ty,pos,after,g⟩ n F h m (.bool (a==b)):=.mk λc w ha _=>by
 have e1:=λ(op:BinOp)=>(show eqGuard op t x y (.bool a) (.bool b)=pure () from by cases op<;>rfl)
 simp only[execOp,ex c ha,ey c ha,e1,pure_bind];first
  |(simp[run_eql_bool w t a b ht];done)
  |simp[run_neq_bool w t a b ht]
theorem c5x{x y:Operand}{a b:Bool}{t t':TypeId}(ht:P.underlying t=some .bool)(ex:Ev n F x (.bool a))(ey:Ev n F y (.bool b)) :
 PO P ⟨dst,.binOp .neq t x y t',ty,pos,after,g⟩ n F h m (.bool (!(a==b))):=.mk λc w ha _=>by
 have e1:=λ(op:BinOp)=>(show eqGuard op t x y (.bool a) (.bool b)=pure () from by cases op<;>rfl)
 simp only[execOp,ex c ha,ey c ha,e1,pure_bind];first
  |(simp;done)
  |simp[run_neq_bool w t a b ht]
abbrev str(l:List UInt8):Value:=.string ⟨l.toArray⟩
theorem H0{x y:Operand}{a b:List UInt8}{t t':TypeId}(ex:Ev n F x (str a))(ey:Ev n F y (str b)) :
 PO P ⟨dst,.binOp .eql t x y t',ty,pos,after,g⟩ n F h m (.bool (a==b)):=.mk λc w ha _=>by
 simp[execOp,ex c ha,ey c ha,eqGuard,binOp,Op.stringOp]
theorem P2{x y:Operand}{a b:List UInt8}{t t':TypeId}(ex:Ev n F x (str a))(ey:Ev n F y (str b)) :
 PO P ⟨dst,.binOp .neq t x y t',ty,pos,after,g⟩ n F h m (.bool (!(a==b))):=.mk λc w ha _=>by
 simp[execOp,ex c ha,ey c ha,eqGuard,binOp,Op.stringOp]
theorem a0U{x y:Operand}{a b:List UInt8}{t t':TypeId}(ex:Ev n F x (str a))(ey:Ev n F y (str b))(hl:a.length+b.length<=9223372036854775807) :
 PO P ⟨dst,.binOp .add t x y t',ty,pos,after,g⟩ n F h m (str (a++b)):=.mk λc w ha _=>by
 have e:¬((9223372036854775807:Int)<(a.length:Int)+b.length):=by omega
 have e2:(⟨a.toArray⟩:ByteArray)++⟨b.toArray⟩=⟨(a++b).toArray⟩:=by apply ByteArray.ext;simp
 simp[execOp,ex c ha,ey c ha,eqGuard,binOp,Op.stringOp,ByteArray.size,e,e2]
theorem R8{x:Operand}{t:TypeId}{e:TypeId}{a:Oa}{l c:Nat}(ht:P.underlying t=some (.slice e))(ex:Ev n F x (.slice a l c)) :
 PO P ⟨dst,.call ⟨.builtin .len,#[x],#[t]⟩,ty,pos,after,g⟩ n F h m (.int .i64 l):=.mk λb w ha _=>by
 simp[execOp,resolve,invoke,builtin,ex b ha,Builtin.len_,run_underlying ht,goInt]
theorem G0{x:Operand}{t:TypeId}{l:List UInt8}(ht:P.underlying t=some .string)(ex:Ev n F x (str l)) :
 PO P ⟨dst,.call ⟨.builtin .len,#[x],#[t]⟩,ty,pos,after,g⟩ n F h m (.int .i64 l.length):=.mk λb w ha _=>by
 simp[execOp,resolve,invoke,builtin,ex b ha,Builtin.len_,run_underlying ht,goInt];rfl
theorem PO.extract{x:Operand}{i:Nat}{vs:Array Value}{v:Value}(ex:Ev n F x (.tuple vs))(hv:vs[i]?=some v) :
 PO P ⟨dst,.extract x i,ty,pos,after,g⟩ n F h m v:=.mk λb w ha _=>by
 simp[execOp,ex b ha,Instr.extract,hv]
theorem PO.makeFunc{fn:Fn}{xs ys:List Operand}{us vs:Lv}(e1:Evs n F xs us)(e2:Evs n F ys vs) :
 PO P ⟨dst,.makeFunc fn xs.toArray ys.toArray,ty,pos,after,g⟩ n F h m (.func fn us.toArray vs.toArray):=.mk λb w ha _=>by
 simp[execOp,Instr.makeFunc,e1.map ha,e2.map ha]
theorem PO.fieldAddr{x:Operand}{t i:Nat}{fs:Array Field}{f:Field}{b off:Nat}(ht:P.underlying t=some (.struct fs))(hf:fs[i]?=some f)(hz:P.cellsOf f.type≠0)
 (ex:Ev n F x (.pointer (some ⟨b,off,none⟩))):PO P ⟨dst,.fieldAddr t x i,ty,pos,after,g⟩ n F h m (.pointer (some ⟨b,off+f.offset,none⟩)):=.mk λa w ha _=>by
 unfold Program.cellsOf at hz;cases hq:P.info? f.type with
 |none=>simp[hq]at hz
 |some q=>
  have:¬q.size=0:=by simpa [hq]using hz
  simp[execOp,ex a ha,Instr.fieldAt,run_underlying ht,hf,Instr.sureAddr,fieldPlace,sizeOf,typeInfo,hq,this,Addr.add_lit]
def N5(d:TypeDesc):Bool:=match d with
 | .struct _|.array _ _=>false
 |_=>true
theorem L2(w:World){t:TypeId}{d:TypeDesc}(ht:P.underlying t=some d)(hp:N5 d=true):(isAgg t).run P w=.ok false w:=by cases d<;>simp[N5]at hp<;>simp[isAgg,run_underlying ht]
theorem a3y(w:World){t:TypeId}{d:TypeDesc}(ht:P.underlying t=some d)(hp:N5 d=false):(isAgg t).run P w=.ok true w:=by cases d<;>simp[N5]at hp<;>simp[isAgg,run_underlying ht]
theorem St.pt_cell{w:World}(s:St m h w){b off:Nat}{cs:Array Value}{e:TypeId}{fz:Nat×Nat}(hm:Res.pt b (.cells cs e fz)∈h):w.cell? ⟨b,off,none⟩=cs[off]?:=by have:=s.ok _ hm;simp only[Res.ok]at this;simp[World.cell?,this]
theorem C8{x:Operand}{t:TypeId}{d:TypeDesc}{b off:Nat}{cs:Lv}{e:TypeId}{fz:Nat×Nat}{v:Value}(ht:P.underlying t=some d)(hp:N5 d=true)
 (ex:Ev n F x (.pointer (some ⟨b,off,none⟩))) (hm:Res.pt b (.cells cs.toArray e fz)∈h) (hv:cs[off]?=some v):PO P ⟨dst,.load t x,ty,pos,after,g⟩ n F h m v:=.mk λa w ha hs=>by
 have hc:w.cell? ⟨b,off,none⟩=some v:=by rw[hs.pt_cell hm];simpa using hv
 simp[execOp,ex a ha,Instr.loadAt,Instr.sureAddr,loadVar,L2 w ht hp,hc]
def seg(cs:Lv):Nat->Nat->Option (Lv)
 |_,0=>some []
 |off,k+1=>match cs[off]?,seg cs (off+1) k with
  |some v,some r=>some (v::r)
  |_,_=>none
theorem a7d{cs:Lv}:∀{k off:Nat}{vs:Lv},seg cs off k=some vs->vs.length=k/\∀j v,vs[j]?=some v->cs[off+j]?=some v
 |0,off,vs,h=>by simp only[seg,qs]at h;subst h;exact⟨rfl,λj v hv=>by simp at hv⟩
 |k+1,off,vs,h=>by
  simp only[seg]at h;cases h1:cs[off]? with
  |none=>simp[h1]at h
  |some u=>
   cases h2:seg cs (off+1) k with
   |none=>simp[h1,h2]at h
   |some r=>
    simp only[h1,h2,qs]at h;subst h;obtain⟨l,q⟩:=a7d h2;refine⟨by simp[l],λj v hv=>?_⟩;cases j with
    |zero=>simp at hv;subst hv;exact h1
    |succ j=>have:=q j v (by simpa using hv);rwa [show off+(j+1)=off+1+j by omega]
theorem a3p(w:World){t:TypeId}{d:TypeDesc}{b off:Nat}{vs:Lv}(ht:P.underlying t=some d)(hp:N5 d=false)(hsz:P.cellsOf t=vs.length)
 (hq:(P.info? t).isSome=true) (hc:∀j v,vs[j]?=some v->w.cell? ⟨b,off+j,none⟩=some v):(loadVar t ⟨b,off,none⟩).run P w=.ok (.agg vs.toArray) w:=by
 cases hi:P.info? t with
 |none=>simp[hi]at hq
 |some i=>
  have e:i.size=vs.length:=by simpa [Program.cellsOf,hi]using hsz
  have:=run_loadCells_list (P:=P) w ⟨b,off,none⟩ vs (λj v hv=>by rw[Addr.add_lit];exact hc j v hv);simp[loadVar,a3y w ht hp,sizeOf,typeInfo,hi,e,this]
theorem a0n{x:Operand}{t:TypeId}{d:TypeDesc}{b off:Nat}{cs:Lv}{e:TypeId}{fz:Nat×Nat}{vs:Lv}(ht:P.underlying t=some d)(hp:N5 d=false)
 (hq:(P.info? t).isSome=true) (ex:Ev n F x (.pointer (some ⟨b,off,none⟩))) (hm:Res.pt b (.cells cs.toArray e fz)∈h) (hv:seg cs off (P.cellsOf t)=some vs) :
 PO P ⟨dst,.load t x,ty,pos,after,g⟩ n F h m (.agg vs.toArray):=.mk λa w ha hs=>by
 obtain⟨hl,hj⟩:=a7d hv;have:=a3p (P:=P) w (b:=b) (off:=off) ht hp hl.symm hq (λj v hv=>by rw[hs.pt_cell hm];simpa using hj j v hv);simp[execOp,ex a ha,Instr.loadAt,Instr.sureAddr,this]
theorem I8{x:Operand}{t:TypeId}{d:TypeDesc}{b off:Nat}{vs:Lv}(ht:P.underlying t=some d)(hp:N5 d=false)
 (hq:(P.info? t).isSome=true) (ex:Ev n F x (.pointer (some ⟨b,off,none⟩))) (hl:P.cellsOf t=vs.length) (hv:∀j v,vs[j]?=some v->m.cell ⟨b,off+j,none⟩=some v) :
 PO P ⟨dst,.load t x,ty,pos,after,g⟩ n F h m (.agg vs.toArray):=.mk λa w ha hs=>by
 have:=a3p (P:=P) w (b:=b) (off:=off) ht hp hl hq (λj v hj=>hs.cell (hv j v hj));simp[execOp,ex a ha,Instr.loadAt,Instr.sureAddr,this]
theorem b1x{x:Operand}{t i:Nat}{fs:Array Field}{f:Field}{d:TypeDesc}{cs:Lv}{v:Value}(ht:P.underlying t=some (.struct fs))(hf:fs[i]?=some f)
 (hd:P.underlying f.type=some d) (hp:N5 d=true) (ex:Ev n F x (.agg cs.toArray)) (hv:cs[f.offset]?=some v):PO P ⟨dst,.field t x i,ty,pos,after,g⟩ n F h m v:=.mk λa w ha _=>by
 simp[execOp,ex a ha,Instr.field,run_underlying ht,hf,asAgg,part,L2 w hd hp,hv]
def a1N:Lv->Nat->Lv->Option (Lv)
 |cs,_,[]=>some cs
 | [],_,_::_=>none
 |_::cs,0,v::vs=>match a1N cs 0 vs with
  |some r=>some (v::r)
  |none=>none
 |c::cs,k+1,v::vs=>match a1N cs k (v::vs)with
  |some r=>some (c::r)
  |none=>none
theorem a9x:∀{cs:Lv}{k:Nat}{vs r:Lv},a1N cs k vs=some r->k+vs.length<=cs.length+(if vs=[]then k else 0)/\r=cs.take k++vs++cs.drop (k+vs.length)\/vs=[]/\r=cs:=by
 intro cs;induction cs with
 |nil=>
  intro k vs r h;cases vs with
  |nil=>simp only[a1N,qs]at h;right;exact⟨rfl,h.symm⟩
  |cons v vs=>simp[a1N]at h
 |cons c cs ih=>
  intro k vs r h;cases vs with
  |nil=>simp only[a1N,qs]at h;right;exact⟨rfl,h.symm⟩
  |cons v vs=>
   left
   cases k with
   |zero=>
    simp only[a1N]at h;cases h1:a1N cs 0 vs with
    |none=>simp[h1]at h
    |some q=>
     simp only[h1,qs]at h;subst h;rcases ih h1 with⟨l,e⟩|⟨e1,e2⟩
     ·subst e
      refine⟨?_,by simp⟩;split at l<;>simp_all
     ·subst e1;subst e2;simp
   |succ k=>
    simp only[a1N]at h;cases h1:a1N cs k (v::vs)with
    |none=>simp[h1]at h
    |some q=>
     simp only[h1,qs]at h;subst h;rcases ih h1 with⟨l,e⟩|⟨e1,e2⟩
     ·subst e
      refine⟨?_,by simp[Nat.add_right_comm k 1]⟩;simp at l⊢;omega
     ·simp at e1
theorem a7L{cs:Lv}{k:Nat}{vs r:Lv}(h:a1N cs k vs=some r)(hv:vs≠[]):k+vs.length<=cs.length:=by
 rcases a9x h with⟨l,_⟩|⟨e,_⟩
 ·simpa [hv]using l
 ·exact absurd e hv
theorem a9J{cs:Lv}{k:Nat}{vs r:Lv}(h:a1N cs k vs=some r):r=cs.take k++vs++cs.drop (k+vs.length):=by
 rcases a9x h with⟨_,e⟩|⟨e,e'⟩
 ·exact e
 ·subst e;subst e';simp
end
end Go.Eng
namespace Go.Eng
open Go Go.RowKit
structure Sl(m:View)(a:Oa)(n cap sz:Nat)(xs:Lv):Prop where
 len:xs.length=n*sz
 le:n<=cap
 mx:cap<=9223372036854775807
 at_:∀j v,xs[j]?=some v->∃b off,a=some ⟨b,off,none⟩/\m.cell ⟨b,off+j,none⟩=some v
theorem Sl.mono{m m':View}{a:Oa}{n cap sz:Nat}{xs:Lv}(h:Sl m a n cap sz xs)(hm:m.le m'):Sl m' a n cap sz xs:=
 ⟨h.len,h.le,h.mx,λj v hj=>by obtain⟨b,off,e,hc⟩:=h.at_ j v hj;exact⟨b,off,e,hm.cell hc⟩⟩
theorem Sl.nil(m:View)(sz:Nat):Sl m none 0 0 sz []:=⟨by simp,qz _,by omega,λj v h=>by simp at h⟩
def elt(a:Oa)(o:Nat):Oa:=a.map λp=>⟨p.block,p.off+o,none⟩
def sl1(a:Oa)(l cap sz:Nat):Oa:=if cap=l then a else a.map (·.add (l*sz))
theorem Sl.sub{m:View}{a:Oa}{n cap sz:Nat}{xs:Lv}(s:Sl m a n cap sz xs){l k:Nat}(h1:l<=k)(h2:k<=n) :
 Sl m (sl1 a l cap sz) (k-l) (cap-l) sz ((xs.drop (l*sz)).take ((k-l)*sz)):=by
 have hle:=s.le;have hmx:=s.mx;have hml:l*sz+(k-l)*sz<=n*sz:=by rw[<-zv,show l+(k-l)=k by omega];exact zw _ h2
 refine⟨?_,by omega,by omega,λj v hj=>?_⟩
 ·rw[qV,qx,s.len];omega
 ·rw[ja]at hj
  split at hj
  ·rename_i hlt
   rw[zL]at hj;obtain⟨b,off,e,hc⟩:=s.at_ _ v hj;subst e;by_cases hcl:cap=l
   ·have:k-l=0:=by omega
    rw[this]at hlt;simp at hlt
   ·refine⟨b,off+l*sz,by simp[sl1,hcl,Addr.add_lit],?_⟩
    rw[jd];exact hc
  ·simp at hj
theorem a6Y{α:Type}{sz:Nat}(enc:α->Lv)(henc:∀x,(enc x).length=sz):∀(l:List α)(q j:Nat),j<sz->(l.flatMap enc)[q*sz+j]?=(l[q]?).bind λx=>(enc x)[j]?
 | [],q,j,_=>by simp
 |x::l,0,j,hj=>by
  simp[List.getElem?_append,henc,hj]
 |x::l,q+1,j,hj=>by
  have ih:=a6Y enc henc l q j hj;rw[List.flatMap_cons,zK (by rw[henc,zv];omega),henc,
   show(q+1)*sz+j-sz=q*sz+j by rw[zv];omega,ih]
  simp
def bv(bs:List UInt8):Lv:=bs.map λb=>.int .u8 b.toNat
theorem c1g{bs:List UInt8}{j:Nat}{b:UInt8}(h:bs[j]?=some b):(bv bs)[j]?=some (.int .u8 b.toNat):=by simp[bv,h]
theorem b2I(bs:List UInt8):(bv bs).length=bs.length:=by simp[bv]
structure Rd(m:View)(h:Lr)(a:Oa)(n cap sz:Nat)(xs:Lv):Prop where
 len:xs.length=n*sz
 le:n<=cap
 mx:cap<=9223372036854775807
 at_:∀w,St m h w->∀j u,xs[j]?=some u->∃b off,a=some ⟨b,off,none⟩/\w.cell? ⟨b,off+j,none⟩=some u
theorem Rd.ofSl{m:View}{h:Lr}{a:Oa}{n cap sz:Nat}{xs:Lv}(s:Sl m a n cap sz xs):Rd m h a n cap sz xs:=
 ⟨s.len,s.le,s.mx,λw st j u hj=>by obtain⟨b,off,e,hc⟩:=s.at_ j u hj;exact⟨b,off,e,st.cell hc⟩⟩
theorem St.weaken{m m':View}{h h':Lr}{w:World}(s:St m' h' w)(hm:m.le m')(hh:h.Sublist h'):St m h w:=by
 have s':=s.sub hh;exact⟨s'.os.trans hm.os,s'.out.trans hm.out,s'.tape.trans hm.tape,λb o hb=>s'.blk b o (hm.blk b o hb),s'.ok,s'.nd,λr hr b hb=>by
  have:=s'.fr r hr b hb;cases hq:m.blk b with
  |none=>rfl
  |some o=>rw[hm.blk b o hq]at this;cases this⟩
theorem Rd.mono{m m':View}{h h':Lr}{a:Oa}{n cap sz:Nat}{xs:Lv}(r:Rd m h a n cap sz xs)(hm:m.le m')(hh:h.Sublist h'):Rd m' h' a n cap sz xs:=
 ⟨r.len,r.le,r.mx,λw st=>r.at_ w (st.weaken hm hh)⟩
theorem Rd.cons{m:View}{h:Lr}{a:Oa}{n cap sz:Nat}{xs:Lv}{x:Res}(r:Rd m h a n cap sz xs):Rd m (x::h) a n cap sz xs:=r.mono (View.le.refl m) (qo _ _)
theorem Rd.sub{m:View}{h:Lr}{a:Oa}{n cap sz:Nat}{xs:Lv}(s:Rd m h a n cap sz xs){l k:Nat}(h1:l<=k)(h2:k<=n) :
 Rd m h (sl1 a l cap sz) (k-l) (cap-l) sz ((xs.drop (l*sz)).take ((k-l)*sz)):=by
 have hle:=s.le;have hmx:=s.mx;have hml:l*sz+(k-l)*sz<=n*sz:=by rw[<-zv,show l+(k-l)=k by omega];exact zw _ h2
 refine⟨?_,by omega,by omega,λw st j v hj=>?_⟩
 ·rw[qV,qx,s.len];omega
 ·rw[ja]at hj
  split at hj
  ·rename_i hlt
   rw[zL]at hj;obtain⟨b,off,e,hc⟩:=s.at_ w st _ v hj;subst e;by_cases hcl:cap=l
   ·have:k-l=0:=by omega
    rw[this]at hlt;simp at hlt
   ·refine⟨b,off+l*sz,by simp[sl1,hcl,Addr.add_lit],?_⟩
    rw[jd];exact hc
  ·simp at hj
section
variable {P:Program}{ops:Array Oper}{Q:Exit->Pw}{n:Cx}{F:Fm}{h h':Lr}{m:View}{rest:Lo}
variable {ty:TypeId}{pos:String}{after:Array Edge}{dst:Option Tmp}{g:Option (Nat×Bool)}{d:Nat}
theorem D7{x i:Operand}{t e:TypeId}{a:Oa}{len cap sz q:Nat}{k:IntKind}{j:Int}{xs:Lv}(ht:P.underlying t=some (.slice e))(hsz:(P.info? e).map (·.size)=some sz)
 (hz:0<sz) (ex:Ev n F x (.slice a len cap)) (ei:Ev n F i (.int k j)) (hs:Rd m h a len cap sz xs) (hj:j=(q:Int)) (hq:q<len) :
 PO P ⟨dst,.indexAddr t x i,ty,pos,after,g⟩ n F h m (.pointer (elt a (q*sz))):=.mk λb w ha st=>by
 subst hj;have hlt:q*sz<xs.length:=by rw[hs.len];exact Nat.mul_lt_mul_of_pos_right hq hz
 obtain⟨b0,off,e0,_⟩:=hs.at_ w st _ _ (qk hlt);subst e0;cases hi:P.info? e with
 |none=>simp[hi]at hsz
 |some i0=>
  have e1:i0.size=sz:=by simpa [hi]using hsz
  have e2:(q:Int)<len:=by omega
  simp[execOp,ex b ha,ei b ha,Instr.indexAt,asIntOf,run_underlying ht,sizeOf,typeInfo,hi,e1,hq,elt,Addr.add_lit]
theorem b9l{x:Operand}{t i o len cap sz j:Nat}{fs:Array Field}{f:Field}{a:Oa}{xs:Lv}(ht:P.underlying t=some (.struct fs))(hf:fs[i]?=some f)(hz:P.cellsOf f.type≠0)(hs:Rd m h a len cap sz xs)(hj:j<xs.length)
 (ex:Ev n F x (.pointer (elt a o))):PO P ⟨dst,.fieldAddr t x i,ty,pos,after,g⟩ n F h m (.pointer (elt a (o+f.offset))):=.mk λb w ha st=>by
 obtain⟨b0,off,e0,_⟩:=hs.at_ w st _ _ (qk hj);subst e0;have:=PO.fieldAddr (P:=P) (h:=h) (m:=m) (dst:=dst) (ty:=ty) (pos:=pos) (after:=after) (g:=g) (b:=b0) (off:=off+o) ht hf hz ex;have e:elt (some ⟨b0,off,none⟩) (o+f.offset)=some ⟨b0,off+o+f.offset,none⟩:=by simp[elt,jd]
 rw[e];exact this b w ha st
theorem b0I{x:Operand}{t:TypeId}{u:TypeDesc}{a:Oa}{len cap sz o:Nat}{xs:Lv}{v:Value}(ht:P.underlying t=some u)(hp:N5 u=true)(hs:Rd m h a len cap sz xs)
 (ex:Ev n F x (.pointer (elt a o))) (hv:xs[o]?=some v):PO P ⟨dst,.load t x,ty,pos,after,g⟩ n F h m v:=.mk λb w ha st=>by
 obtain⟨b0,off,e,hc⟩:=hs.at_ w st _ _ hv;subst e;have ex':b.eval x=.pointer (some ⟨b0,off+o,none⟩):=ex b ha;simp[execOp,ex',Instr.loadAt,Instr.sureAddr,loadVar,L2 w ht hp,hc]
theorem b99{x:Operand}{t:TypeId}{u:TypeDesc}{a:Oa}{len cap sz o:Nat}{xs vs:Lv}(ht:P.underlying t=some u)(hp:N5 u=false)(hq:(P.info? t).isSome=true)
 (hs:Rd m h a len cap sz xs) (ex:Ev n F x (.pointer (elt a o))) (hl:P.cellsOf t=vs.length) (h0:0<vs.length) (hv:∀j v,vs[j]?=some v->xs[o+j]?=some v) :
 PO P ⟨dst,.load t x,ty,pos,after,g⟩ n F h m (.agg vs.toArray):=.mk λb w ha st=>by
 obtain⟨b0,off,e,hc⟩:=hs.at_ w st _ _ (hv 0 _ (qk h0));subst e;have ex':b.eval x=.pointer (some ⟨b0,off+o,none⟩):=ex b ha;have:=a3p (P:=P) w (b:=b0) (off:=off+o) ht hp hl hq (λj v hj=>by
  obtain⟨b',off',e',hc'⟩:=hs.at_ w st _ _ (hv j v hj);simp only[qs,Addr.mk.injEq,and_true]at e';obtain⟨rfl,rfl⟩:=e';rw[jd];exact hc')
 simp[execOp,ex',Instr.loadAt,Instr.sureAddr,this]
theorem a7P{x hi:Operand}{t e:TypeId}{a:Oa}{len cap sz u:Nat}{j:Int}{k':IntKind}(ht:P.underlying t=some (.slice e))(hsz:(P.info? e).map (·.size)=some sz)
 (ex:Ev n F x (.slice a len cap)) (eh:Ev n F hi (.int k' j)) (hj:j=(u:Int)) (h2:u<=cap) :
 PO P ⟨dst,.slice t x none (some hi) none,ty,pos,after,g⟩ n F h m (.slice (sl1 a 0 cap sz) u cap):=.mk λb w ha _=>by
 subst hj;have e1:(u:Int)<=cap:=by omega
 cases hq:P.info? e with
 |none=>simp[hq]at hsz
 |some i0=>
  have e3:i0.size=sz:=by simpa [hq]using hsz
  simp[execOp,ex b ha,eh b ha,Instr.sliceAt,Instr.slice,run_underlying ht,Instr.sliceBounds,run_sliceBound,sizeOf,typeInfo,hq,e1,sl1]
theorem S4{x lo:Operand}{t e:TypeId}{a:Oa}{len cap sz l:Nat}{i:Int}{k:IntKind}(ht:P.underlying t=some (.slice e))(hsz:(P.info? e).map (·.size)=some sz)
 (ex:Ev n F x (.slice a len cap)) (el:Ev n F lo (.int k i)) (hi:i=(l:Int)) (h1:l<=len) :
 PO P ⟨dst,.slice t x (some lo) none none,ty,pos,after,g⟩ n F h m (.slice (sl1 a l cap sz) (len-l) (cap-l)):=.mk λb w ha _=>by
 subst hi;have e2:(l:Int)<=len:=by omega
 cases hq:P.info? e with
 |none=>simp[hq]at hsz
 |some i0=>
  have e3:i0.size=sz:=by simpa [hq]using hsz
  simp[execOp,ex b ha,el b ha,Instr.sliceAt,Instr.slice,run_underlying ht,Instr.sliceBounds,run_sliceBound,sizeOf,typeInfo,hq,e3,e2,sl1]
theorem F3{x i:Operand}{t:TypeId}{l:List UInt8}{k:IntKind}{j:Int}{q:Nat}{c:UInt8}(ht:P.underlying t=some .string)(ex:Ev n F x (str l))(ei:Ev n F i (.int k j))(hj:j=(q:Int))(hc:l[q]?=some c) :
 PO P ⟨dst,.index t x i,ty,pos,after,g⟩ n F h m (.int .u8 c.toNat):=.mk λb w ha _=>by
 subst hj;have e:(⟨l.toArray⟩:ByteArray)[q]?=some c:=by
  have h1:q<l.length:=by
   rcases ze q l.length with h'|h'
   ·exact h'
   ·rw[qS h']at hc;cases hc
  have h2:q<(⟨l.toArray⟩:ByteArray).size:=by simpa [ByteArray.size]using h1
  have h3:(⟨l.toArray⟩:ByteArray)[q]?=some ((⟨l.toArray⟩:ByteArray)[q]'h2):=getElem?_pos (⟨l.toArray⟩:ByteArray) q h2;rw[h3];have h4:l[q]=c:=by rw[qk h1]at hc;exact qM hc
  rw[<-h4];rfl
 simp[execOp,ex b ha,ei b ha,Instr.index,asIntOf,run_underlying ht,e]
theorem a4P(l:List UInt8)(i j:Nat):(⟨l.toArray⟩:ByteArray).extract i j=⟨((l.drop i).take (j-i)).toArray⟩:=by apply ByteArray.ext;rw[ByteArray.data_extract];simp
theorem a03{x lo hi:Operand}{t:TypeId}{s:List UInt8}{l u:Nat}{i j:Int}{k k':IntKind}(ht:P.underlying t=some .string)
 (ex:Ev n F x (str s)) (el:Ev n F lo (.int k i)) (eh:Ev n F hi (.int k' j)) (hil:i=(l:Int)) (hju:j=(u:Int)) (h1:l<=u) (h2:u<=s.length) :
 PO P ⟨dst,.slice t x (some lo) (some hi) none,ty,pos,after,g⟩ n F h m (str ((s.drop l).take (u-l))):=.mk λb w ha _=>by
 subst hil hju;have e1:(u:Int)<=s.length:=by omega
 have e2:(l:Int)<=u:=by omega
 have e3:(⟨s.toArray⟩:ByteArray).size=s.length:=rfl;simp[execOp,ex b ha,el b ha,eh b ha,Instr.sliceAt,Instr.slice,run_underlying ht,Instr.sliceBounds,run_sliceBound,e1,e2,e3,a4P]
theorem O6{x hi:Operand}{t:TypeId}{s:List UInt8}{u:Nat}{j:Int}{k':IntKind}(ht:P.underlying t=some .string)
 (ex:Ev n F x (str s)) (eh:Ev n F hi (.int k' j)) (hj:j=(u:Int)) (h2:u<=s.length) :
 PO P ⟨dst,.slice t x none (some hi) none,ty,pos,after,g⟩ n F h m (str (s.take u)):=.mk λb w ha _=>by
 subst hj;have e1:(u:Int)<=s.length:=by omega
 have e3:(⟨s.toArray⟩:ByteArray).size=s.length:=rfl;simp[execOp,ex b ha,eh b ha,Instr.sliceAt,Instr.slice,run_underlying ht,Instr.sliceBounds,run_sliceBound,e1,e3,a4P]
theorem a2L{x lo:Operand}{t:TypeId}{s:List UInt8}{l:Nat}{i:Int}{k:IntKind}(ht:P.underlying t=some .string)
 (ex:Ev n F x (str s)) (el:Ev n F lo (.int k i)) (hi:i=(l:Int)) (h1:l<=s.length) :
 PO P ⟨dst,.slice t x (some lo) none none,ty,pos,after,g⟩ n F h m (str (s.drop l)):=.mk λb w ha _=>by
 subst hi;have e2:(l:Int)<=s.length:=by omega
 have e3:(⟨s.toArray⟩:ByteArray).size=s.length:=rfl;have e4:(s.drop l).take (s.length-l)=s.drop l:=qC (by simp);simp[execOp,ex b ha,el b ha,Instr.sliceAt,Instr.slice,run_underlying ht,Instr.sliceBounds,run_sliceBound,e2,e3,a4P,e4]
theorem b6Y(l:List UInt8):∀s:List UInt8,(l.map λb=>((b.toNat:Nat):Int)).foldl (λ(r:ByteArray) n=>r.push (UInt8.ofNat n.toNat)) ⟨s.toArray⟩=⟨(s++l).toArray⟩:=by
 induction l with
 |nil=>intro s;simp
 |cons b l ih=>
  intro s;simp only[zo,List.foldl_cons,Int.toNat_natCast,UInt8.ofNat_toNat];have e:(⟨s.toArray⟩:ByteArray).push b=⟨(s++[b]).toArray⟩:=by apply ByteArray.ext;simp[ByteArray.push]
  rw[e,ih (s++[b])];simp
theorem c2q{x:Operand}{s t e:TypeId}{a:Oa}{len cap:Nat}{bs:List UInt8}(hs:P.underlying s=some (.slice e))(he:P.underlying e=some (.int .u8))(ht:P.underlying t=some .string)
 (ex:Ev n F x (.slice a len cap)) (hb:Rd m h a len cap 1 (bv bs)):PO P ⟨dst,.convert s t x,ty,pos,after,g⟩ n F h m (str bs):=.mk λb w ha st=>by
 have hl:bs.length=len:=by have:=hb.len;simpa [b2I]using this
 have hr:(convert s t (.slice a len cap)).run P w=.ok (str bs) w:=by
  rw[run_convert_bytes_string w s t e a len cap hs he ht];cases bs with
  |nil=>
   simp at hl;subst hl
   cases a with
   |none=>simp[Conv.bytesToString];rfl
   |some ad=>have:=run_bytesToString (P:=P) w ad 0 cap [] (by simp[loadCells,loadCellsFrom]);exact this.trans rfl
  |cons c bs=>
   obtain⟨b0,off,e0,_⟩:=hb.at_ w st 0 _ (c1g (by simp;rfl));subst e0;have hld:=run_loadCells_list (P:=P) w ⟨b0,off,none⟩ (bv (c::bs)) (λj v hj=>by
    obtain⟨b1,off1,e1,hc⟩:=hb.at_ w st j v hj;simp only[qs,Addr.mk.injEq,and_true]at e1;obtain⟨rfl,rfl⟩:=e1;rw[Addr.add_lit];exact hc)
   have e2:bv (c::bs)=((c::bs).map λb=>((b.toNat:Nat):Int)).map (Value.int .u8):=by simp[bv]
   rw[b2I,hl,e2]at hld;rw[run_bytesToString (P:=P) w _ len cap _ hld];have:=b6Y (c::bs) [];simp only[zO]at this;exact congrArg (λz=>Result.ok (Value.string z) w) this
 simp[execOp,ex b ha,hr]
def W4:Value->Option (Lv)
 | .agg ⟨l⟩=>some l
 | .tuple _=>none
 | .bool b=>some [.bool b]
 | .int k i=>some [.int k i]
 | .string s=>some [.string s]
 | .pointer p=>some [.pointer p]
 | .slice a l c=>some [.slice a l c]
 | .map r=>some [.map r]
 | .func f x y=>some [.func f x y]
 | .nilFunc=>some [.nilFunc]
 | .iface t v=>some [.iface t v]
 | .nilIface=>some [.nilIface]
 |_=>none
theorem P4{v:Value}{zs:Lv}(h:W4 v=some zs):v.cells.toList=zs:=by cases v<;>simp[W4]at h<;>simp[Value.cells,h]
theorem St.setRow{w:World}(s:St m h w){b:Nat}{cs cs':Array Value}{e:TypeId}(u:Upd h (.pt b (.cells cs e (0,0))) (.pt b (.cells cs' e (0,0))) h'):St m h' (w.setRow b cs'):=by have hb:w.heap[b]?=some (.cells cs e (0,0)):=s.ok _ u.mem;exact s.upd u rfl rfl rfl (λk _ hk=>setRow_other w b k cs' (λe=>hk (by rw[e];rfl))) (setRow_heap w b cs cs' e (0,0) hb) (λk hk=>.inl hk)
theorem b1n{x y:Operand}{t:TypeId}{b off:Nat}{cs vs:Lv}{e:TypeId}{v:Value}(hq:(P.info? t).map (·.size)=some vs.length)(ex:Ev n F x (.pointer (some ⟨b,off,none⟩)))(ey:Ev n F y v)
 (hvs:v.cells.toList=vs) (h1:∀u∈vs,u.oneCell'=true) (hl:off+vs.length<=cs.length)
 (u:Upd h (.pt b (.cells cs.toArray e (0,0))) (.pt b (.cells (cs.take off++vs++cs.drop (off+vs.length)).toArray e (0,0))) h') (k:WL P ops Q n rest F h' m) :
 WL P ops Q n (⟨none,.store t x y,ty,pos,after,none⟩::rest) F h m:=.mk λa w ha hs=>by
 subst hvs;have hb:w.heap[b]?=some (.cells cs.toArray e (0,0)):=hs.ok _ u.mem;have hr:=run_storeCells_at P b off e v.cells.toList 0 cs.toArray w hb (by simpa using hl) h1;have hrun:(execOp a.eval ⟨none,.store t x y,ty,pos,after,none⟩).run P w=.ok .skip (w.setRow b (cs.take off++v.cells.toList++cs.drop (off+v.cells.toList.length)).toArray):=by
  cases hi:P.info? t with
  |none=>simp[hi]at hq
  |some i=>
   have e1:i.size=v.cells.size:=by simpa [hi]using hq
   have hr':=hr;simp only[Nat.add_zero]at hr';simp[execOp,ex a ha,ey a ha,Instr.storeAt,Instr.sureAddr,storeVar,sizeOf,typeInfo,hi,e1]at hr'⊢;rw[hr'];rfl
 exact G7 rfl (a8X hrun (k _ _ ha (hs.setRow u)))
theorem WL.store{x y:Operand}{t:TypeId}{b off:Nat}{cs cs' vs:Lv}{e:TypeId}{v:Value}(hq:(P.info? t).map (·.size)=some vs.length)(ex:Ev n F x (.pointer (some ⟨b,off,none⟩)))(ey:Ev n F y v)
 (hvs:W4 v=some vs) (h1:vs.all (·.oneCell')=true) (h0:vs.isEmpty=false) (hc:a1N cs off vs=some cs')
 (u:Upd h (.pt b (.cells cs.toArray e (0,0))) (.pt b (.cells cs'.toArray e (0,0))) h') (k:WL P ops Q n rest F h' m) :
 WL P ops Q n (⟨none,.store t x y,ty,pos,after,none⟩::rest) F h m:=by
 have hne:vs≠[]:=by cases vs<;>simp_all
 have e1:=a9J hc;subst e1;exact b1n hq ex ey (P4 hvs) (by simpa using h1) (a7L hc hne) u k
theorem WL.alloc{t:TypeId}{z:Value}{zs:Lv}(hz:(P.info? t).bind (·.zero)=some z)(hzs:W4 z=some zs)(hd:d<n.num)
 (k:∀b,WL P ops Q n rest ((d,.pointer (some ⟨b,0,none⟩))::F) (.pt b (.cells zs.toArray t (0,0))::h) m) :
 WL P ops Q n (⟨some d,.alloc t,ty,pos,after,none⟩::rest) F h m:=.mk λa w ha hs=>by
 have hzs:=P4 hzs;subst hzs;have hrun:(execOp a.eval ⟨some d,.alloc t,ty,pos,after,none⟩).run P w=.ok (.value (.pointer (some ⟨w.heap.size,0,none⟩))) (w.alloc (.cells z.cells.toList.toArray t)):=by
  cases hi:P.info? t with
  |none=>simp[hi]at hz
  |some i=>
   have e1:i.zero=some z:=by simpa [hi]using hz
   simp[execOp,Instr.alloc,zeroValue,typeInfo,hi,e1,newVar,newRow]
 exact G7 rfl (O5 hrun (k _ _ _ (ha.put hd _) (hs.alloc _)))
theorem WL.box{x:Operand}{t:TypeId}{v:Value}{zs:Lv}(ex:Ev n F x v)(hzs:W4 v=some zs)(hd:d<n.num)
 (k:∀b,WL P ops Q n rest ((d,.pointer (some ⟨b,0,none⟩))::F) (.pt b (.cells zs.toArray t (0,0))::h) m) :
 WL P ops Q n (⟨some d,.box t x,ty,pos,after,none⟩::rest) F h m:=.mk λa w ha hs=>by
 have hzs:=P4 hzs;subst hzs;have hrun:(execOp a.eval ⟨some d,.box t x,ty,pos,after,none⟩).run P w=.ok (.value (.pointer (some ⟨w.heap.size,0,none⟩))) (w.alloc (.cells v.cells.toList.toArray t)):=by simp[execOp,Instr.box,ex a ha,newVar,newRow]
 exact G7 rfl (O5 hrun (k _ _ _ (ha.put hd _) (hs.alloc _)))
theorem Y8{f:Operand}{args:List Operand}{tys:Array TypeId}{vs first cap:Lv}{q:FuncId}{a:Act}{w:World}{gd:Option (Nat×Bool)}(ha:Fr n F a)
 (ef:Ev n F f (.func (.func q) first.toArray cap.toArray)) (ea:Evs n F args vs) (he:∀as w,(callFunc q as).run P w=.ok (.enter q as) w) :
 (execOp a.eval ⟨dst,.call ⟨.value f,args.toArray,tys⟩,ty,pos,after,gd⟩).run P w=.ok (.enter q (first++vs++cap).toArray) w:=by
 simp[execOp,resolve,ef a ha,Deferred.ofValue,invoke,ea.map ha,he]
theorem WL.call{f:Operand}{args:List Operand}{tys:Array TypeId}{vs first cap:Lv}{q:FuncId}{R:Value->View->Lr->Prop}(ef:Ev n F f (.func (.func q) first.toArray cap.toArray))(ea:Evs n F args vs)
 (c:CT P q (first++vs++cap) h m R) (hd:d<n.num) (k:∀v m' h',m.le m'->R v m' h'->WL P ops Q n rest ((d,v)::F) h' m') :
 WL P ops Q n (⟨some d,.call ⟨.value f,args.toArray,tys⟩,ty,pos,after,none⟩::rest) F h m:=.mk λa w ha hs=>by
 refine G7 rfl ?_;unfold Oper.wp;rw[Y8 ha ef ea c.enter];refine Calls.mono (c.calls w hs) ?_;rintro e w' ⟨v,m',h',rfl,hle,hst,hR⟩;exact k v m' h' hle hR _ _ (ha.put hd v) hst
def A5(h:Lr)(v:Value):Value->View->Lr->Prop:=λv' _ h'=>v'=v/\h'=h
def a9E:Nat->Lv->Fm
 |_,[]=>[]
 |k,v::vs=>(k,v)::a9E (k+1) vs
theorem b1l:∀(vs:Lv)(k t:Nat)(v:Value),look (a9E k vs) t=some v->∃j,t=k+j/\vs[j]?=some v
 | [],k,t,v,h=>by simp[a9E,look]at h
 |u::vs,k,t,v,h=>by
  simp only[a9E,look]at h;cases hb:Nat.beq k t with
  |true=>rw[hb]at h;exact⟨0,by have:=zb hb;omega,by simpa using h⟩
  |false=>rw[hb]at h;obtain⟨j,e,hj⟩:=b1l vs (k+1) t v h;exact⟨j+1,by omega,by simpa using hj⟩
theorem Fr.enter(vs:Lv)(N:Nat)(hN:vs.length<=N):Fr ⟨N,none,[]⟩ (a9E 0 vs) { tmps:=vs.toArray++Array.replicate (N-vs.toArray.size) undef,defers:=[] }:=by
 refine⟨rfl,by simp;omega,λt v ht=>?_⟩;obtain⟨j,e,hj⟩:=b1l vs 0 t v ht;have e':t=j:=by omega
 subst e';have hlt:t<vs.length:=by
  rcases ze t vs.length with h'|h'
  ·exact h'
  ·rw[qS h']at hj;cases hj
 rw[Array.getElem?_append_left (by simpa using hlt)];simpa using hj
def a3l:Nat->Lv->Option Fm
 |_,[]=>some []
 |k,v::vs=>match a3l (k+1) vs with
  |some r=>some ((k,v)::r)
  |none=>none
theorem a5q:∀{vs:Lv}{k:Nat}{F:Fm},a3l k vs=some F->a9E k vs=F
 | [],k,F,h=>by simp only[a3l,qs]at h;exact h
 |v::vs,k,F,h=>by
  simp only[a3l]at h;cases h1:a3l (k+1) vs with
  |none=>simp[h1]at h
  |some r=>simp only[h1,qs]at h;subst h;simp[a9E,a5q h1]
theorem CT.body{f:FuncId}{args:Lv}{R:Value->View->Lr->Prop}{fn:Func}{c:Code}{F0:Fm}{N:Nat}(he:∀as w,(callFunc f as).run P w=.ok (.enter f as) w)
 (hf:P.funcs[f]?=some fn) (hb:fn.body=some c) (hN:fn.ntmps=N) (hl:args.length<=N) (hF:a3l 0 args=some F0) (k:WC P c (bodyPost P fn (RQ m R)) ⟨N,none,[]⟩ F0 h m):CT P f args h m R:=by
 have hF:=a5q hF;subst hF hN;exact⟨he,λw hs=>calls_of_wp hf hb (wpIn_wide.1 (wpIn_mono (k.e _ w (Fr.enter args fn.ntmps hl) hs) λ_ _ _ q=>a5d q))⟩
theorem CT.mono{f:FuncId}{args:Lv}{R R':Value->View->Lr->Prop}(c:CT P f args h m R)(hr:∀v m' h',m.le m'->R v m' h'->R' v m' h'):CT P f args h m R':=
 ⟨c.enter,λw hs=>Calls.mono (c.calls w hs) (by rintro e w' ⟨v,m',h',rfl,hle,hst,hR⟩;exact⟨v,m',h',rfl,hle,hst,hr _ _ _ hle hR⟩)⟩
def b1h(tmps:Array Value)(r:ResultVar):Sem Value:=
 match r with
 | .tmp t=>pure (tmps.getD t undef)
 | .cell b t=>do loadVar t (<- asAddr (tmps.getD b undef))
theorem a0L(fn:Func)(tmps:Array Value):results fn tmps=(do
 let vs <- fn.results.mapM (b1h tmps)
 pure (if h:vs.size=1 then vs[0]else .tuple vs)):=by
 unfold results;have e:(λr:ResultVar=>match r with
  | .tmp t=>pure (tmps.getD t undef)
  | .cell a t=>do loadVar t (<- asAddr (tmps.getD a undef)))=b1h tmps:=by funext r;cases r<;>rfl
 rw[<-e];rfl
structure RV(P:Program)(n:Cx)(F:Fm)(h:Lr)(m:View)(r:ResultVar)(v:Value):Prop where
 e:∀a w,Fr n F a->St m h w->(b1h a.tmps r).run P w=.ok v w
theorem RV.tmp{t:Nat}{v:Value}(hl:look F t=some v):RV P n F h m (.tmp t) v:=.mk λa w ha _=>by simp only[b1h,ha.getD hl];rfl
theorem a0q{p t:Nat}{u:TypeDesc}{b off:Nat}{cs:Lv}{e:TypeId}{fz:Nat×Nat}{v:Value}(ht:P.underlying t=some u)(hp:N5 u=true)(hl:look F p=some (.pointer (some ⟨b,off,none⟩)))
 (hm:Res.pt b (.cells cs.toArray e fz)∈h) (hv:cs[off]?=some v):RV P n F h m (.cell p t) v:=.mk λa w ha hs=>by
 have e1:=ha.getD hl;have hc:w.cell? ⟨b,off,none⟩=some v:=by rw[hs.pt_cell hm];simpa using hv
 simp only[b1h,e1,asAddr];simp[loadVar,L2 w ht hp,hc]
theorem W6{p t:Nat}{u:TypeDesc}{b off:Nat}{cs:Lv}{e:TypeId}{fz:Nat×Nat}{vs:Lv}(ht:P.underlying t=some u)(hp:N5 u=false)(hq:(P.info? t).isSome=true)
 (hl:look F p=some (.pointer (some ⟨b,off,none⟩))) (hm:Res.pt b (.cells cs.toArray e fz)∈h) (hv:seg cs off (P.cellsOf t)=some vs):RV P n F h m (.cell p t) (.agg vs.toArray):=.mk λa w ha hs=>by
 have e1:=ha.getD hl;obtain⟨hl,hj⟩:=a7d hv;have:=a3p (P:=P) w (b:=b) (off:=off) ht hp hl.symm hq (λj v hv=>by rw[hs.pt_cell hm];simpa using hj j v hv);simp only[b1h,e1,asAddr];simp[this]
theorem c5L{fn:Func}{ex:Exit}{R:Ending->World->Prop}{v:Value}(hex:ex=.ret\/ex=.normal)(hr:∀a w,Fr n F a->St m h w->(results fn a.tmps).run P w=.ok v w)(hR:∀w,St m h w->R (.returned v) w)(hds:n.ds=[]) :
 ∀a w,Fr n F a->St m h w->bodyPost P fn R ex a w:=λa w ha hs=>by
 rcases hex with rfl|rfl
 ·exact⟨ha.d.trans hds,v,hr a w ha hs,hR w hs⟩
 ·exact⟨ha.d.trans hds,v,hr a w ha hs,hR w hs⟩
theorem a6p{fn:Func}{ex:Exit}{m0:View}{R:Value->View->Lr->Prop}(hex:ex=.ret\/ex=.normal)(hfn:fn.results=#[])(hle:m0.le m)(hd:h'.Sublist h)(hR:R (.tuple #[]) m h')(hds:n.ds=[]:=by rfl) :
 ∀a w,Fr n F a->St m h w->bodyPost P fn (RQ m0 R) ex a w:=
 c5L hex (λa w ha hs=>by simp[results,hfn]) (λw hs=>⟨_,m,h',rfl,hle,hs.sub hd,hR⟩) hds
theorem c7E{fn:Func}{ex:Exit}{m0:View}{R:Value->View->Lr->Prop}{r:ResultVar}{v:Value}(hex:ex=.ret\/ex=.normal)(hfn:fn.results=#[r])(h1:RV P n F h m r v)(hle:m0.le m)(hd:h'.Sublist h)(hR:R v m h')(hds:n.ds=[]:=by rfl) :
 ∀a w,Fr n F a->St m h w->bodyPost P fn (RQ m0 R) ex a w:=
 c5L hex (λa w ha hs=>by
  have h1:=h1.e a w ha hs;simp[a0L,hfn,h1]) (λw hs=>⟨_,m,h',rfl,hle,hs.sub hd,hR⟩) hds
theorem c2s{fn:Func}{ex:Exit}{m0:View}{R:Value->View->Lr->Prop}{r r':ResultVar}{v v':Value}(hex:ex=.ret\/ex=.normal)(hfn:fn.results=#[r,r'])(h1:RV P n F h m r v)(h2:RV P n F h m r' v')(hle:m0.le m)(hd:h'.Sublist h)(hR:R (.tuple #[v,v']) m h')(hds:n.ds=[]:=by rfl) :
 ∀a w,Fr n F a->St m h w->bodyPost P fn (RQ m0 R) ex a w:=
 c5L hex (λa w ha hs=>by
  have h1:=h1.e a w ha hs;have h2:=h2.e a w ha hs;simp[a0L,hfn,h1,h2]) (λw hs=>⟨_,m,h',rfl,hle,hs.sub hd,hR⟩) hds
theorem c7o{fn:Func}{ex:Exit}{m0:View}{R:Value->View->Lr->Prop}{r r' r'':ResultVar}{v v' v'':Value}(hex:ex=.ret\/ex=.normal)(hfn:fn.results=#[r,r',r''])(h1:RV P n F h m r v)(h2:RV P n F h m r' v')(h3:RV P n F h m r'' v'')
 (hle:m0.le m) (hd:h'.Sublist h) (hR:R (.tuple #[v,v',v'']) m h') (hds:n.ds=[]:=by rfl) :
 ∀a w,Fr n F a->St m h w->bodyPost P fn (RQ m0 R) ex a w:=
 c5L hex (λa w ha hs=>by
  have h1:=h1.e a w ha hs;have h2:=h2.e a w ha hs;have h3:=h3.e a w ha hs;simp[a0L,hfn,h1,h2,h3]) (λw hs=>⟨_,m,h',rfl,hle,hs.sub hd,hR⟩) hds
end
end Go.Eng
end
namespace Go.Eng
section
open Go Go.RowKit
def Q0(o:Oper):List Nat:=(o.after.toList.filter (Region.binds .any)).map (·.on)
def a5g:Lo->List Nat->List Nat
 | [],acc=>acc
 |o::l,acc=>a5g l (acc++[(Q0 o).foldl (λs p=>s|||(2^p|||acc.getD p 0)) 0])
def clo(ops:Lo):List Nat:=a5g ops []
def b2V(ops:Array Oper)(i j:Nat):Bool:=
 match ops[i]?,ops[j]? with
 |some x,some y=>x.apart ops y&&(match x.op with|.select ..=>false|_=>true)&&(match y.op with|.select ..=>false|_=>true)
 |_,_=>false
def a6t(o:Oper):Bool:=match o.op,o.guard with
 | .load _ _,none=>true
 |_,_=>false
def a9Z(o:Oper):Bool:=match o.op with
 | .buildSlice _ _ _=>true
 | .alloc _=>true
 |_=>false
def c7M(ops:Array Oper)(i j:Nat):Bool:=match ops[i]?,ops[j]? with
 |some x,some y=>a6t x&&a9Z y
 |_,_=>false
theorem a5P{o:Oper}(h:a9Z o=true):a6t o=false:=by unfold a9Z at h;unfold a6t;split at h<;>simp_all
def a4n(o:Oper):Bool:=match o.op,o.guard,o.dst with
 | .buildSlice _ (_+1) _,none,some _=>true
 |_,_,_=>false
def b5T(ops:Array Oper)(i:Nat):Bool:=match ops[i]? with
 |some o=>a4n o
 |none=>false
theorem a5F{o:Oper}(h:a4n o=true):a9Z o=true:=by
 unfold a4n at h;unfold a9Z;split at h
 ·rename_i h1 _ _;rw[h1]
 ·cases h
theorem b40{o:Oper}(h:a4n o=true)(y:Nat->Option Bool):Region.wanted o y=true:=by
 unfold a4n at h;split at h
 ·rename_i h1 _;unfold Region.wanted;rw[h1]
 ·cases h
inductive Qt{α:Type}:Sem α->Prop
 |pure (a:α):Qt (.pure a)
 |program {k:Program->Sem α} (h:∀p,Qt (k p)):Qt (.program k)
 |halt (h:Halt):Qt (.halt h)
theorem Qt.bind{α β:Type}{x:Sem α}{f:α->Sem β}(h:Qt x)(hf:∀a,Qt (f a)):Qt (x >>= f):=by
 show Qt (x.bind f);induction h with
 |pure a=>exact hf a
 |program h ih=>exact .program ih
 |halt h=>exact .halt h
theorem Qt.run{α:Type}{P:Program}{x:Sem α}{v:α}{w:World}(h:Qt x)(hr:x.run P w=.ok v w)(w':World):x.run P w'=.ok v w':=by
 induction h with
 |pure a=>simp only[Sem.run,Result.ok.injEq,and_true]at hr⊢;exact hr
 |program h ih=>exact ih P hr
 |halt h=>cases hr
theorem Qt.mapM{α β:Type}{f:α->Sem β}(h:∀a,Qt (f a)):∀l:List α,Qt (l.mapM f)
 | []=>by simp only[List.mapM_nil];exact .pure _
 |a::l=>by simp only[List.mapM_cons];exact(h a).bind λ_=>(Qt.mapM h l).bind λ_=>.pure _
theorem Qt.info(t:TypeId):Qt (typeInfo t):=by unfold typeInfo Go.program;exact Qt.bind (.program λp=>.pure p) λp=>by split<;>first|exact .pure _|exact .halt _
theorem Qt.under(t:TypeId):Qt (underlying t):=by unfold underlying Go.program;exact Qt.bind (.program λp=>.pure p) λp=>by split<;>first|exact .pure _|exact .halt _
theorem Qt.size(t:TypeId):Qt (sizeOf t):=(Qt.info t).bind λ_=>.pure _
theorem Qt.zero(t:TypeId):Qt (zeroValue t):=(Qt.info t).bind λ_=>by split<;>first|exact .pure _|exact .halt _
theorem Qt.build(t:TypeId)(ps:Array (Nat×Value)):Qt (Instr.build t ps):=by
 unfold Instr.build;refine(Qt.zero t).bind λ_=>(Qt.under t).bind λd=>?_
 split
 ·refine Qt.bind ?_ λ_=>by split<;>first|exact .pure _|exact .halt _
  rw[Array.mapM_eq_mapM_toList];exact Qt.bind (Qt.mapM (λf=>(Qt.size _).bind λ_=>.pure _) _) λ_=>.pure _
 ·exact(Qt.size _).bind λ_=>by split<;>first|exact .pure _|exact .halt _
 ·exact .halt _
def c8j(o:Oper):Bool:=match o.op,o.guard with
 | .build _ _,none=>true
 | .move _,none=>true
 |_,_=>false
def c7A(ops:Array Oper)(i:Nat):Bool:=match ops[i]? with
 |some o=>c8j o
 |none=>false
def c9s(ops:Array Oper)(i:Nat):Bool:=match ops[i]? with
 |some o=>a6t o
 |none=>false
theorem b8T{o:Oper}(h:c8j o=true):o.guard=none/\∀{P:Program}(ρ:Operand->Value)(v:Value)(w w':World),(execOp ρ o).run P w=.ok (.value v) w->(execOp ρ o).run P w'=.ok (.value v) w':=by
 obtain⟨dst,op,ty,pos,after,g⟩:=o;unfold c8j at h;split at h
 ·rename_i e1 e2
  simp only at e1 e2;subst e1 e2;refine⟨rfl,λρ v w w' hr=>?_⟩;refine Qt.run ?_ hr w';simp only[execOp];exact(Qt.build _ _).bind λ_=>.pure _
 ·rename_i e1 e2
  simp only at e1 e2;subst e1 e2;refine⟨rfl,λρ v w w' hr=>?_⟩;simp only[execOp]at hr⊢;exact Qt.run (.pure _) hr w'
 ·cases h
def a5e(ops:Array Oper)(eff:List Nat)(j i:Nat):Bool:=(!eff.contains j||(c7M ops j i&&!eff.contains 4097)||(eff.contains 4096&&((b5T ops i&&eff.contains i)||(b5T ops j&&!eff.contains i)||(c7A ops i&&!eff.contains i&&!c9s ops j))))&&b2V ops j i
inductive Tr where
 |nil
 |op (i:Nat) (t:Tr)
 |alt (a b:Tr)
def Tr.ops:Tr->List Nat
 | .nil=>[]
 | .op i t=>i::t.ops
 | .alt a _=>a.ops
def Tr.wf:Tr->Bool
 | .nil=>true
 | .op _ t=>t.wf
 | .alt a b=>a.wf&&b.wf&&a.ops.isPerm b.ops
def Tr.front(f:Nat->Nat->Bool)(i:Nat):Tr->Option Tr
 | .nil=>none
 | .op j t=>if j=i then some t else if f j i=true then(t.front f i).map (.op j)else none
 | .alt a b=>match a.front f i with
  |some x=>some x
  |none=>b.front f i
def Tr.may(f g:Nat->Nat->Bool)(i:Nat):Tr->Bool
 | .nil=>false
 | .op j t=>j==i||g j i||(f j i&&t.may f g i)
 | .alt a b=>a.may f g i||b.may f g i
def Tr.full(f g:Nat->Nat->Bool)(t:Tr):Bool:=t.ops.all λi=>t.may f g i
def Tr.sub(f g:Nat->Nat->Bool):Tr->Bool
 | .nil=>true
 | .op j t=>(t.full f g&&t.sub f g)&&((Tr.op j t).full f g||t.ops.all λk=>!f j k)
 | .alt a b=>a.sub f g&&b.sub f g
theorem Tr.front_perm{f:Nat->Nat->Bool}{i:Nat}:∀{t t':Tr},t.wf=true->t.front f i=some t'->t.ops.Perm (i::t'.ops)/\t'.wf=true
 | .nil,_,_,h=>by cases h
 | .op j t,t',hw,h=>by
  unfold Tr.front at h;split at h
  ·rename_i e
   subst e;cases h;exact⟨List.Perm.refl _,hw⟩
  ·split at h
   ·cases hf:t.front f i with
    |none=>rw[hf]at h;cases h
    |some x=>rw[hf]at h;cases h;obtain⟨h1,h2⟩:=Tr.front_perm (t:=t) hw hf;exact⟨(h1.cons j).trans (qF _ _ _),h2⟩
   ·cases h
 | .alt a b,t',hw,h=>by
  simp only[Tr.wf,qa]at hw;unfold Tr.front at h;split at h
  ·rename_i x hx
   cases h;exact Tr.front_perm (t:=a) hw.1.1 hx
  ·obtain⟨h1,h2⟩:=Tr.front_perm (t:=b) hw.1.2 h
   exact⟨(List.isPerm_iff.1 hw.2).trans h1,h2⟩
theorem Tr.front_sub{f g:Nat->Nat->Bool}{i:Nat}:∀{t t':Tr},t.wf=true->t.sub f g=true->t.front f i=some t'->t'.sub f g=true/\t'.full f g=true
 | .nil,_,_,_,h=>by cases h
 | .op j t,t',hw,hs,h=>by
  simp only[Tr.sub,qa,qv]at hs;obtain⟨⟨s1,s2⟩,s3⟩:=hs;unfold Tr.front at h;split at h
  ·cases h
   exact⟨s2,s1⟩
  ·rename_i hji
   split at h
   ·rename_i hfj
    cases hf:t.front f i with
    |none=>rw[hf]at h;cases h
    |some x=>
     rw[hf]at h;cases h;obtain⟨x1,x2⟩:=Tr.front_sub (t:=t) hw s2 hf;have hp:=(Tr.front_perm (t:=t) hw hf).1;have hfull:(Tr.op j x).full f g=true:=by
      rcases s3 with s3|s3
      ·simp only[Tr.full,zc]at s3 x2⊢
       intro k hk;have hk':k∈(Tr.op j t).ops:=by
        rcases qQ.1 hk with rfl|hk
        ·exact zx ..
        ·exact qt _ (hp.mem_iff.2 (qt _ hk))
       have h1:=s3 k hk';simp only[Tr.may,qv,qa]at h1⊢;rcases qQ.1 hk with rfl|hk
       ·exact .inl (.inl (by simp))
       ·rcases h1 with h1|h1
        ·exact .inl h1
        ·exact .inr ⟨h1.1,x2 k hk⟩
      ·exfalso
       simp only[zc,qK]at s3;have:=s3 i (hp.mem_iff.2 (zx ..));rw[hfj]at this;cases this
     refine⟨?_,hfull⟩;simp only[Tr.sub,qa,qv];exact⟨⟨x2,x1⟩,.inl hfull⟩
   ·cases h
 | .alt a b,t',hw,hs,h=>by
  simp only[Tr.wf,qa]at hw;simp only[Tr.sub,qa]at hs;unfold Tr.front at h;split at h
  ·rename_i x hx
   cases h;exact Tr.front_sub (t:=a) hw.1.1 hs.1 hx
  ·exact Tr.front_sub (t:=b) hw.1.2 hs.2 h
theorem Tr.front_may{f g:Nat->Nat->Bool}{i:Nat}:∀{t:Tr},t.may f g i=true->t.wf=true->(∀j∈t.ops,g j i=false)->∃t',t.front f i=some t'
 | .nil,h,_,_=>by cases h
 | .op j t,h,hw,hg=>by
  simp only[Tr.may,qv,qa]at h;unfold Tr.front;split
  ·exact⟨t,rfl⟩
  ·rename_i hji
   rcases h with(h|h)|h
   ·exact absurd (eq_of_beq h) hji
   ·rw[hg j (zx ..)]at h;cases h
   ·obtain⟨x,hx⟩:=Tr.front_may (t:=t) h.2 hw λk hk=>hg k (qt _ hk)
    rw[if_pos h.1,hx];exact⟨_,rfl⟩
 | .alt a b,h,hw,hg=>by
  simp only[Tr.wf,qa]at hw;have hp:=List.isPerm_iff.1 hw.2;simp only[Tr.may,qv]at h;unfold Tr.front;cases ha:a.front f i with
  |some x=>exact⟨x,rfl⟩
  |none=>
   rcases h with h|h
   ·obtain⟨x,hx⟩:=Tr.front_may (t:=a) h hw.1.1 hg
    rw[ha]at hx;cases hx
   ·exact Tr.front_may (t:=b) h hw.1.2 λj hj=>hg j (hp.mem_iff.2 hj)
def a5O(f:Nat->Nat->Bool):List Nat->Bool
 | []=>true
 |i::l=>l.all (f i)&&a5O f l
def b3D(ops:Array Oper)(i:Nat):List Nat:=match ops[i]? with
 |some o=>Q0 o
 |none=>[]
def a7F:Oper->Bool
 |⟨some _,.extract _ _,_,_,_,none⟩=>true
 |⟨some _,.move _,_,_,_,none⟩=>true
 |_=>false
def b2A(ops:Array Oper)(p:Nat):Bool:=(match ops[p]? with
 |some o=>a7F o
 |none=>false)&&Region.free .any ops ((Array.range ops.size).map λj=>((clo ops.toList).getD p 0).testBit j) p
def b0r(ops:Array Oper)(eff:List Nat)(T:Tr)(u t lp:List Nat):Bool:=
 let cl:=clo ops.toList
 let s:=T.ops
 (T.wf&&T.full (a5e ops eff) (λj i=>(cl.getD i 0).testBit j)&&T.sub (a5e ops eff) (λj i=>(cl.getD i 0).testBit j))
  && (s++(u++t)).length==ops.size&&(List.range ops.size).all (λi=>(s++(u++t)).contains i)
  && a5O (λi j=>i !=j) (s++(u++t))
  && (ops.toList.zipIdx.all λ(o,i)=>(Q0 o).all (· < i))
  && t.all (λj=>u.all λi=>(cl.getD j 0).testBit i)
  && t.all (λj=>s.all λi=>(cl.getD j 0).testBit i||(lp.contains i&&(b3D ops i).all λd=>(cl.getD j 0).testBit d))
  && lp.all (λp=>!eff.contains p&&b2A ops p)&&Region.noSelect ops
  && a5O (λi j=>(cl.getD j 0).testBit i) t
theorem a4s{f:Nat->Nat->Bool}:∀{l:List Nat},a5O f l=true->l.Pairwise (λi j=>f i j=true)
 | [],_=>.nil
 |i::l,h=>by
  simp only[a5O,qa,zc]at h;exact qR.2 ⟨λj hj=>h.1 j hj,a4s h.2⟩
theorem a6I(f:Nat->Nat)(i:Nat):∀(l:List Nat)(s:Nat),(l.foldl (λs p=>s|||f p) s).testBit i=true->s.testBit i=true\/∃p∈l,(f p).testBit i=true
 | [],s,h=>.inl h
 |p::l,s,h=>by
  rcases a6I f i l _ h with h|⟨q,hq,hb⟩
  ·rw[Nat.testBit_or,qv]at h
   rcases h with h|h
   ·exact .inl h
   ·exact .inr ⟨p,by simp,h⟩
  ·exact .inr ⟨q,by simp[hq],hb⟩
theorem a8e:∀(l:Lo)(acc:List Nat)(j i:Nat),(∀k,(acc.getD k 0).testBit i=true->k<acc.length) ->
 ((a5g l acc).getD j 0).testBit i=true->(acc.getD j 0).testBit i=true\/∃o,l[j-acc.length]?=some o/\acc.length<=j/\(i∈Q0 o\/∃p∈Q0 o,((a5g l acc).getD p 0).testBit i=true/\p<j)
 | [],acc,j,i,_,h=>.inl h
 |o::l,acc,j,i,_,h=>by
  have hacc:∀(l:Lo)(acc:List Nat)(k:Nat),k<acc.length->(a5g l acc).getD k 0=acc.getD k 0:=by
   intro l;induction l with
   |nil=>intro acc k _;rfl
   |cons o l ih=>intro acc k hk;rw[a5g,ih _ _ (by simp;omega)];simp[List.getD,zt hk]
  simp only[a5g]at h;have hz:∀k,((acc++[(Q0 o).foldl (λs p=>s|||(2^p|||acc.getD p 0)) 0]).getD k 0).testBit i=true->k<(acc++[(Q0 o).foldl (λs p=>s|||(2^p|||acc.getD p 0)) 0]).length:=by
   intro k hk;rcases ze k (acc++[(Q0 o).foldl (λs p=>s|||(2^p|||acc.getD p 0)) 0]).length with h'|h'
   ·exact h'
   ·rw[List.getD,qS h']at hk;simp at hk
  rcases a8e l _ j i hz h with h1|⟨o',ho',hle,hd⟩
  ·rcases Nat.lt_trichotomy j acc.length with hj|hj|hj
   ·left
    simpa [List.getD,zt hj]using h1
   ·right
    refine⟨o,by simp[hj],by omega,?_⟩;have e1:(acc++[(Q0 o).foldl (λs p=>s|||(2^p|||acc.getD p 0)) 0]).getD j 0=(Q0 o).foldl (λs p=>s|||(2^p|||acc.getD p 0)) 0:=by subst hj;simp[List.getD]
    rw[e1]at h1;rcases a6I _ i _ _ h1 with h2|⟨p,hp,hb⟩
    ·simp at h2
    ·rw[Nat.testBit_or,qv]at hb
     rcases hb with hb|hb
     ·left
      have:p=i:=by rw[Nat.testBit_two_pow]at hb;simpa using hb
      rw[<-this];exact hp
     ·right
      have hpl:p<acc.length:=by
       rcases ze p acc.length with h'|h'
       ·exact h'
       ·simp[List.getD,qS h']at hb
      refine⟨p,hp,?_,by omega⟩;rw[a5g,hacc _ _ _ (by simp;omega)];simp only[List.getD,zt hpl]at hb⊢;exact hb
   ·exfalso
    rw[List.getD,qS (by simp;omega)]at h1;simp at h1
  ·right
   simp only[qh,qO]at ho' hle;refine⟨o',?_,by omega,hd⟩;rw[show j-acc.length=(j-(acc.length+1))+1 by omega,zm];exact ho'
theorem b5C{l:Lo}{j i:Nat}(h:((clo l).getD j 0).testBit i=true):∃o,l[j]?=some o/\(i∈Q0 o\/∃p∈Q0 o,((clo l).getD p 0).testBit i=true/\p<j):=by
 rcases a8e l [] j i (λk hk=>by simp at hk) h with h1|⟨o,ho,_,hd⟩
 ·simp at h1
 ·exact⟨o,by simpa using ho,hd⟩
def a9P(ops:Array Oper)(L:Array Bool):Prop:=∀j o,ops[j]?=some o->L.getD j true=true->j<L.size->∀p∈Q0 o,L.getD p false=true
theorem a1n{ops:Array Oper}{L:Array Bool}(hc:a9P ops L):∀(j:Nat)(o:Oper)(i:Nat),ops[j]?=some o->(∀p∈Q0 o,L.getD p false=true)->((clo ops.toList).getD j 0).testBit i=true->L.getD i false=true:=by
 intro j;induction j using Nat.strongRecOn with
 |_ j ih=>
  intro o i ho hp hb;obtain⟨o',ho',hd⟩:=b5C hb;have e:o'=o:=by
   have:ops[j]?=some o':=by simpa using ho'
   rw[ho]at this;exact(qM this).symm
  subst e;rcases hd with hd|⟨p,hpd,hpb,hlt⟩
  ·exact hp i hd
  ·have hpl:=hp p hpd
   obtain⟨op,hop,_⟩:=b5C hpb;have hop':ops[p]?=some op:=by simpa using hop
   have hps:p<L.size:=by
    rcases ze p L.size with h'|h'
    ·exact h'
    ·simp[Array.getElem?_eq_none h']at hpl
   refine ih p hlt op i hop' (λq hq=>hc p op hop' ?_ hps q hq) hpb;simp[hps]at hpl⊢;exact hpl
abbrev Fl:=Nat×Lv×TypeId
structure Tl where
 t:List Nat
 fl:List Fl:=[]
section
variable (P:Program)(ops:Array Oper)(Q:Exit->Pw)(n:Cx)(eff:List Nat)(t:Tl)(hs:Lr)
def a2z:List Fl->Fm->Lr->View->Prop
 | [],F,h,m=>WL P ops Q n (t.t.filterMap (ops[·]?)) F h m
 |(d,zs,x)::r,F,h,m=>∀b,a2z r ((d,.pointer (some ⟨b,0,none⟩))::F) (.pt b (.cells zs.toArray x (0,0))::h) m
def base(F:Fm)(hp:Lr)(m:View):Prop:=a2z P ops Q n t t.fl F (hp++hs) m
def a5z(r:Result Next)(R:Value->World->Prop)(X:List PanicEntry->World->Prop):Prop:=
 match r with
 | .ok (.value v) w=>R v w
 | .ok .skip w=>R undef w
 | .ok (.enter f args) w=>Calls P f args w λe w'=>(∃v,e=.returned v/\R v w')\/∃c,e=.panicked c/\X c w'
 |_=>False
structure POg(o:Oper)(F:Fm)(m:View)(v:Value):Prop where
 e:∀a w,Fr n F a->St m hs w->(Region.wanted o (yielded ops a.tmps)=true->(execOp a.eval o).run P w=.ok (.value v) w)/\(Region.wanted o (yielded ops a.tmps)=false->v=undef)
structure EFF(o:Oper)(F:Fm)(hp:Lr)(m:View)(K:Value->Lr->View->Prop):Prop where
 e:∀fr a w,Fr n F a->St m (fr++(hp++hs)) w->(Region.wanted o (yielded ops a.tmps)=true->a5z P ((execOp a.eval o).run P w) (λv w'=>∃m' hp',m.le m'/\St m' (fr++(hp'++hs)) w'/\K v hp' m') (λc w'=>∀a',Fr n [] a'->a0K Q (.panic c) a' w')) /\
  (Region.wanted o (yielded ops a.tmps)=false->K undef hp m)
def Sat(F:Fm)(hp:Lr)(m:View):Prop:=∃fr a w,Fr n F a/\St m (fr++(hp++hs)) w
def Out(x:Sem Next)(k:Nat)(cs:Array Value)(e:TypeId):Prop:=∀w,x.run P w=.ok (.value (.slice (some ⟨w.heap.size,0,none⟩) k k)) (w.alloc (.cells cs e))
def putF(o:Oper)(v:Value)(F:Fm):Fm:=match o.dst with
 |some d=>(d,v)::F
 |none=>F
structure MK(o:Oper)(F:Fm)(hp:Lr)(m:View)(K:Value->Lr->Prop):Prop where
 ex:Sat n hs F hp m->∀a,Fr n F a->∃k cs e,Out P (execOp a.eval o) k cs e
 k:∀a,Fr n F a->∀k cs e,Out P (execOp a.eval o) k cs e->∀b,Sat n hs (putF o (.slice (some ⟨b,0,none⟩) k k) F) (.pt b (.cells cs e (0,0))::hp) m->K (.slice (some ⟨b,0,none⟩) k k) (.pt b (.cells cs e (0,0))::hp)
def SRr:Tr->Fm->Lr->View->Prop
 | .nil,F,hp,m=>base P ops Q n t hs F hp m
 | .op i s,F,hp,m=>∃o,ops[i]?=some o/\(∀d,o.dst=some d->d<n.num)/\match eff.contains i with
  |true=>match a6t o with
   |true=>∃v,POg P ops n (hp++hs) o F m v/\SRr s (putF o v F) hp m
   |false=>match a4n o&&eff.contains 4096 with
    |true=>MK P n hs o F hp m λv hp'=>SRr s (putF o v F) hp' m
    |false=>EFF P ops Q n hs o F hp m λv hp' m'=>(a9Z o=true->hp.Sublist hp')/\SRr s (putF o v F) hp' m'
  |false=>∃v,POg P ops n hs o F m v/\SRr s (putF o v F) hp m
 | .alt a b,F,hp,m=>SRr a F hp m/\SRr b F hp m
end
section
variable {P:Program}{ops:Array Oper}{Q:Exit->Pw}{n:Cx}{eff:List Nat}{t:Tl}{hs:Lr}
theorem Fr.congr{F F':Fm}{a:Act}(h:Fr n F a)(e:∀t,look F' t=look F t):Fr n F' a:=h.sub λt v ht=>by rw[<-e];exact ht
theorem Sat.congr{F F':Fm}{hp:Lr}{m:View}(h:Sat n hs F hp m)(e:∀t,look F' t=look F t):Sat n hs F' hp m:=by obtain⟨fr,a,w,ha,st⟩:=h;exact⟨fr,a,w,ha.congr e,st⟩
theorem Sat.perm{F:Fm}{hp hp':Lr}{m:View}(h:Sat n hs F hp m)(e:hp.Perm hp'):Sat n hs F hp' m:=by obtain⟨fr,a,w,ha,st⟩:=h;exact⟨fr,a,w,ha,st.perm ((e.append_right hs).append_left fr)⟩
theorem Sat.less{F:Fm}{r:Res}{hp:Lr}{m:View}(h:Sat n hs F (r::hp) m):Sat n hs F hp m:=by obtain⟨fr,a,w,ha,st⟩:=h;exact⟨fr,a,w,ha,st.sub (List.Sublist.append_left (qo _ _) fr)⟩
theorem a1L{o:Oper}{v:Value}{F F':Fm}(e:∀t,look F' t=look F t):∀t,look (putF o v F') t=look (putF o v F) t:=by
 intro t;unfold putF;cases o.dst with
 |none=>exact e t
 |some d=>simp only[look,e]
theorem Fr.putF{o:Oper}{v:Value}{F:Fm}{a:Act}(ha:Fr n F a)(hd:∀d,o.dst=some d->d<n.num):Fr n (putF o v F) (a.put o.dst v):=by
 unfold Eng.putF;cases e:o.dst with
 |none=>exact ha
 |some d=>exact ha.put (hd d e) v
theorem a2z.congr:∀(r:List Fl){F F':Fm}{h:Lr}{m:View},(∀t,look F' t=look F t)->a2z P ops Q n t r F h m->a2z P ops Q n t r F' h m
 | [],F,F',h,m,e,k=>WL.mk λa w ha st=>WL.e k a w (ha.congr λt=>(e t).symm) st
 |(d,zs,x)::r,F,F',h,m,e,k=>λb=>a2z.congr r (λt=>by simp only[look,e]) (k b)
theorem SRr.endT:∀{T:Tr}{F:Fm}{hp:Lr}{m:View},SRr P ops Q n eff t hs T F hp m->T.ops=[]->base P ops Q n t hs F hp m
 | .nil,_,_,_,h,_=>h
 | .op _ _,_,_,_,_,e=>by cases e
 | .alt a _,_,_,_,h,e=>SRr.endT (T:=a) h.1 e
theorem SRr.congr:∀(s:Tr){F F':Fm}{hp:Lr}{m:View},(∀t,look F' t=look F t)->SRr P ops Q n eff t hs s F hp m->SRr P ops Q n eff t hs s F' hp m
 | .nil,F,F',hp,m,e,h=>a2z.congr t.fl e h
 | .alt a b,F,F',hp,m,e,h=>⟨SRr.congr a e h.1,SRr.congr b e h.2⟩
 | .op i s,F,F',hp,m,e,h=>by
  obtain⟨o,ho,hd,h⟩:=h;refine⟨o,ho,hd,?_⟩;cases hc:eff.contains i with
  |true=>
   rw[hc]at h;simp only at h⊢;cases hr:a6t o with
   |true=>rw[hr]at h;simp only at h⊢;obtain⟨v,h1,h2⟩:=h;exact⟨v,⟨λa w ha st=>h1.e a w (ha.congr λt=>(e t).symm) st⟩,SRr.congr s (a1L e) h2⟩
   |false=>
    rw[hr]at h;simp only at h⊢;cases hmk:a4n o&&eff.contains 4096 with
    |true=>rw[hmk]at h;simp only at h⊢;exact⟨λs a ha=>h.ex (s.congr λt=>(e t).symm) a (ha.congr λt=>(e t).symm),λa ha k cs el ho b s=>SRr.congr _ (a1L e) (h.k a (ha.congr λt=>(e t).symm) k cs el ho b (s.congr λt=>(a1L e t).symm))⟩
    |false=>
    rw[hmk]at h;simp only at h⊢;refine⟨λfr a w ha st=>?_⟩;obtain⟨h1,h2⟩:=h.e fr a w (ha.congr λt=>(e t).symm) st;refine⟨λhw=>?_,λhw=>⟨(h2 hw).1,SRr.congr s (a1L e) (h2 hw).2⟩⟩;have h1:=h1 hw;unfold a5z at h1⊢;split at h1
    ·obtain⟨m',hp',a1,a2,a0,a3⟩:=h1;exact⟨m',hp',a1,a2,a0,SRr.congr s (a1L e) a3⟩
    ·obtain⟨m',hp',a1,a2,a0,a3⟩:=h1;exact⟨m',hp',a1,a2,a0,SRr.congr s (a1L e) a3⟩
    ·refine Calls.mono h1 ?_
     rintro e' w' (⟨v,rfl,m',hp',a1,a2,a0,a3⟩|hx)
     ·exact .inl ⟨v,rfl,m',hp',a1,a2,a0,SRr.congr s (a1L e) a3⟩
     ·exact .inr hx
    ·exact h1.elim
  |false=>rw[hc]at h;simp only at h⊢;obtain⟨v,h1,h2⟩:=h;exact⟨v,⟨λa w ha st=>h1.e a w (ha.congr λt=>(e t).symm) st⟩,SRr.congr s (a1L e) h2⟩
theorem a2z.perm:∀(r:List Fl){F:Fm}{h h':Lr}{m:View},h.Perm h'->a2z P ops Q n t r F h m->a2z P ops Q n t r F h' m
 | [],_,_,_,_,e,k=>WL.mk λa w ha st=>WL.e k a w ha (st.perm e.symm)
 |_::r,_,_,_,_,e,k=>λb=>a2z.perm r (e.cons _) (k b)
theorem c3T{l l' r:Lr}(e:l.Perm l')(h:l.Sublist r):∃r',r'.Perm r/\l'.Sublist r':=by obtain⟨q,hq⟩:=h.exists_perm_append;exact⟨l'++q,((e.symm.append_right q).trans hq.symm),qg _ _⟩
theorem SRr.perm:∀(s:Tr){F:Fm}{hp hp':Lr}{m:View},hp.Perm hp'->SRr P ops Q n eff t hs s F hp m->SRr P ops Q n eff t hs s F hp' m
 | .nil,_,_,_,_,e,h=>a2z.perm t.fl (e.append_right hs) h
 | .alt a b,_,_,_,_,e,h=>⟨SRr.perm a e h.1,SRr.perm b e h.2⟩
 | .op i s,F,hp,hp',m,e,h=>by
  obtain⟨o,ho,hd,h⟩:=h;refine⟨o,ho,hd,?_⟩;cases hc:eff.contains i with
  |true=>
   rw[hc]at h;simp only at h⊢;cases hr:a6t o with
   |true=>rw[hr]at h;simp only at h⊢;obtain⟨v,h1,h2⟩:=h;exact⟨v,⟨λa w ha st=>h1.e a w ha (st.perm (e.symm.append_right hs))⟩,SRr.perm s e h2⟩
   |false=>
    rw[hr]at h;simp only at h⊢;cases hmk:a4n o&&eff.contains 4096 with
    |true=>rw[hmk]at h;simp only at h⊢;exact⟨λst a ha=>h.ex (st.perm e.symm) a ha,λa ha k cs el ho b st=>SRr.perm s (e.cons _) (h.k a ha k cs el ho b (st.perm (e.symm.cons _)))⟩
    |false=>
    rw[hmk]at h;simp only at h⊢;refine⟨λfr a w ha st=>?_⟩;obtain⟨h1,h2⟩:=h.e fr a w ha (st.perm ((e.symm.append_right hs).append_left fr));have up:∀{v:Value}{hq:Lr}{m':View}{w':World},St m' (fr++(hq++hs)) w'->(a9Z o=true->hp.Sublist hq)->SRr P ops Q n eff t hs s (putF o v F) hq m' ->
     ∃hq',St m' (fr++(hq'++hs)) w'/\(a9Z o=true->hp'.Sublist hq')/\SRr P ops Q n eff t hs s (putF o v F) hq' m':=λ{v hq m' w'} st' al k=>by
     cases hal:a9Z o with
     |false=>exact⟨hq,st',nofun,k⟩
     |true=>obtain⟨r',h1,h2⟩:=c3T e (al hal);exact⟨r',st'.perm ((h1.symm.append_right hs).append_left fr),λ_=>h2,SRr.perm s h1.symm k⟩
    refine⟨λhw=>?_,λhw=>⟨λhal=>?_,SRr.perm s e (h2 hw).2⟩⟩
    ·have h1:=h1 hw
     unfold a5z at h1⊢;split at h1
     ·obtain⟨m',hq,a1,a2,a0,a3⟩:=h1;obtain⟨hq',b1,b2,b3⟩:=up a2 a0 a3;exact⟨m',hq',a1,b1,b2,b3⟩
     ·obtain⟨m',hq,a1,a2,a0,a3⟩:=h1;obtain⟨hq',b1,b2,b3⟩:=up a2 a0 a3;exact⟨m',hq',a1,b1,b2,b3⟩
     ·refine Calls.mono h1 ?_
      rintro e' w' (⟨v,rfl,m',hq,a1,a2,a0,a3⟩|hx)
      ·obtain⟨hq',b1,b2,b3⟩:=up a2 a0 a3;exact .inl ⟨v,rfl,m',hq',a1,b1,b2,b3⟩
      ·exact .inr hx
     ·exact h1.elim
    ·exact zi _
  |false=>rw[hc]at h;simp only at h⊢;obtain⟨v,h1,h2⟩:=h;exact⟨v,h1,SRr.perm s e h2⟩
theorem b5S{o:Oper}{a:Act}{w:World}{R:Value->World->Prop}{X:List PanicEntry->World->Prop}{K:Pw}(h:a5z P ((execOp a.eval o).run P w) R X)(hk:∀v w',R v w'->K (a.put o.dst v) w')(hx:∀c w',X c w'->Q (.panic c) a w'):o.wp P a w K Q:=by
 unfold Oper.wp;unfold a5z at h;generalize (execOp a.eval o).run P w=r at h⊢;split at h
 ·exact hk _ _ h
 ·exact hk _ _ h
 ·refine Calls.mono h ?_
  rintro e w' (⟨v,rfl,hr⟩|⟨c,rfl,hr⟩)
  ·exact hk _ _ hr
  ·exact hx _ _ hr
 ·exact h.elim
theorem c9L{x y:Oper}{i j:Nat}(hx:ops[i]?=some x)(hy:ops[j]?=some y)(h:b2V ops i j=true) :
 x.apart ops y=true/\(∀cs b,x.op≠.select cs b)/\(∀cs b,y.op≠.select cs b):=by
 simp only[b2V,hx,hy,qa]at h;refine⟨h.1.1,λcs b e=>?_,λcs b e=>?_⟩
 ·have:=h.1.2;rw[e]at this;simp at this
 ·have:=h.2;rw[e]at this;simp at this
theorem unput{y:Oper}{u:Value}{F:Fm}{a:Act}(ha:Fr n (putF y u F) a)(hd:∀d,y.dst=some d->d<n.num) :
 ∃a0,Fr n F a0/\(a0=a\/∃z,a0=a.put y.dst z):=by
 unfold putF at ha;cases e:y.dst with
 |none=>rw[e]at ha;exact⟨a,ha,.inl rfl⟩
 |some d=>
  rw[e]at ha;simp only at ha;cases hl:look F d with
  |none=>
   refine⟨a,⟨ha.d,ha.sz,λt v ht=>ha.get t v ?_⟩,.inl rfl⟩;simp only[look];cases hb:Nat.beq d t with
   |true=>have:=zb hb;subst this;rw[hl]at ht;cases ht
   |false=>exact ht
  |some z=>
   refine⟨a.put (some d) z,⟨ha.d,by simpa [Act.put]using ha.sz,λt v ht=>?_⟩,.inr ⟨z,rfl⟩⟩;by_cases hdt:d=t
   ·subst hdt
    rw[hl]at ht;cases ht;simp[Act.put,ha.sz,hd d e]
   ·simp only[Act.put,zk hdt]
    refine ha.get t v ?_;simp only[look];cases hb:Nat.beq d t with
    |true=>exact absurd (zb hb) hdt
    |false=>exact ht
theorem X0{x y:Oper}{u v:Value}{F:Fm}(h:∀d,x.dst=some d->y.dst≠some d)(t:Nat):look (putF x u (putF y v F)) t=look (putF y v (putF x u F)) t:=by
 unfold putF;cases hx:x.dst with
 |none=>rfl
 |some d=>
  cases hy:y.dst with
  |none=>rfl
  |some e=>
   have hne:d≠e:=λq=>h d hx (q▸hy)
   simp only[look];cases h1:Nat.beq d t with
   |true=>
    cases h2:Nat.beq e t with
    |true=>exact absurd ((zb h1).trans (zb h2).symm) hne
    |false=>rfl
   |false=>rfl
theorem St.weakS{m m':View}{hp hp':Lr}{w:World}(s:St m' (hp'++hs) w)(hm:m.le m')(hh:hp.Sublist hp'):St m (hp++hs) w:=s.weaken hm (hh.append_right hs)
theorem a5z.reach{r:Result Next}{R:Value->World->Prop}{X:List PanicEntry->World->Prop}(h:a5z P r R X)(hx:∀c w,X c w->False):∃v w,R v w:=by
 unfold a5z at h;split at h
 ·exact⟨_,_,h⟩
 ·exact⟨_,_,h⟩
 ·obtain⟨e,w',fr,hR,_⟩:=h []
  rcases hR with⟨v,_,hr⟩|⟨c,_,hc⟩
  ·exact⟨v,w',hr⟩
  ·exact(hx c w' hc).elim
 ·exact h.elim
theorem a5z.mono{r:Result Next}{R R':Value->World->Prop}{X:List PanicEntry->World->Prop}(h:a5z P r R X)(hr:∀v w,R v w->R' v w):a5z P r R' X:=by
 unfold a5z at h⊢;split at h
 ·exact hr _ _ h
 ·exact hr _ _ h
 ·refine Calls.mono h ?_
  rintro e' w' (⟨v,rfl,h⟩|hx)
  ·exact .inl ⟨v,rfl,hr _ _ h⟩
  ·exact .inr hx
 ·exact h.elim
theorem a5z.act{r:Result Next}{R:Value->World->Prop}(h:a5z P r R λc w'=>∀a',Fr n [] a'->a0K Q (.panic c) a' w')(hX:∀c a w,Q (.panic c) a w->False){a:Act}(ha:Fr n [] a):∃v w,R v w:=
 h.reach λc w hc=>hX c a w (a5d (hc a ha))
theorem Fr.none{F:Fm}{a:Act}(h:Fr n F a):Fr n [] a:=⟨h.d,h.sz,λ_ _ ht=>by cases ht⟩
theorem MK.run{o:Oper}{F:Fm}{hp fr:Lr}{m:View}{K:Value->Lr->Prop}(h:MK P n hs o F hp m K)(hd:∀d,o.dst=some d->d<n.num){a:Act}{w:World}(ha:Fr n F a)(st:St m (fr++(hp++hs)) w) :
 ∃k cs e,(execOp a.eval o).run P w=.ok (.value (.slice (some ⟨w.heap.size,0,none⟩) k k)) (w.alloc (.cells cs e))/\St m (fr++((.pt w.heap.size (.cells cs e)::hp)++hs)) (w.alloc (.cells cs e))/\K (.slice (some ⟨w.heap.size,0,none⟩) k k) (.pt w.heap.size (.cells cs e)::hp):=by
 obtain⟨k,cs,e,ho⟩:=h.ex ⟨fr,a,w,ha,st⟩ a ha;have st':St m (fr++((.pt w.heap.size (.cells cs e)::hp)++hs)) (w.alloc (.cells cs e)):=(st.alloc _).perm qL.symm;exact⟨k,cs,e,ho w,st',h.k a ha k cs e ho _ ⟨fr,_,_,ha.putF hd,st'⟩⟩
theorem a4V{oi oj:Oper}{u:Value}{F:Fm}{a:Act}(hdi:∀d,oi.dst=some d->d<n.num)(hs1:∀cs b,oj.op≠.select cs b)(h3:∀d,oi.dst=some d->d∉oj.looksAt ops)(ha:Fr n (putF oi u F) a) :
 ∃a0,Fr n F a0/\execOp a0.eval oj=execOp a.eval oj/\Region.wanted oj (yielded ops a0.tmps)=Region.wanted oj (yielded ops a.tmps):=by
 obtain⟨a0,ha0,e0⟩:=unput ha hdi;refine⟨a0,ha0,?_⟩;rcases e0 with rfl|⟨z,rfl⟩
 ·exact⟨rfl,rfl⟩
 ·exact⟨execOp_put oj hs1 a oi.dst z h3,wanted_put oj a oi.dst z h3⟩
theorem Sat.unput{oi:Oper}{u:Value}{F:Fm}{hp:Lr}{m:View}(hdi:∀d,oi.dst=some d->d<n.num)(h:Sat n hs (putF oi u F) hp m):Sat n hs F hp m:=by obtain⟨fr,a,w,ha,st⟩:=h;obtain⟨a0,ha0,_⟩:=Eng.unput ha hdi;exact⟨fr,a0,w,ha0,st⟩
theorem Sat.putF{oi:Oper}(u:Value){F:Fm}{hp:Lr}{m:View}(hdi:∀d,oi.dst=some d->d<n.num)(h:Sat n hs F hp m):Sat n hs (putF oi u F) hp m:=by obtain⟨fr,a,w,ha,st⟩:=h;exact⟨fr,_,w,ha.putF hdi,st⟩
theorem SRr.front(hX:eff.contains 4096=true->∀c a w,Q (.panic c) a w->False){i:Nat}{o:Oper}(ho:ops[i]?=some o):∀(T T':Tr){F:Fm}{hp:Lr}{m:View},T.front (a5e ops eff) i=some T'->Sat n hs F hp m ->
 SRr P ops Q n eff t hs T F hp m ->
 (∀d,o.dst=some d->d<n.num)/\match eff.contains i with
  |true=>match a6t o with
   |true=>∃v,POg P ops n (hp++hs) o F m v/\SRr P ops Q n eff t hs T' (putF o v F) hp m
   |false=>match a4n o&&eff.contains 4096 with
    |true=>MK P n hs o F hp m λv hp'=>SRr P ops Q n eff t hs T' (putF o v F) hp' m
    |false=>EFF P ops Q n hs o F hp m λv hp' m'=>(a9Z o=true->hp.Sublist hp')/\SRr P ops Q n eff t hs T' (putF o v F) hp' m'
  |false=>∃v,POg P ops n hs o F m v/\SRr P ops Q n eff t hs T' (putF o v F) hp m
 | .nil,_,_,_,_,hf,_,_=>by cases hf
 | .alt a b,T',F,hp,m,hf,sat,h=>by
  unfold Tr.front at hf;split at hf
  ·rename_i x hx
   cases hf;exact SRr.front hX ho a _ hx sat h.1
  ·exact SRr.front hX ho b T' hf sat h.2
 | .op j tl,T',F,hp,m,hf,sat,h=>by
  unfold Tr.front at hf;split at hf
  ·rename_i e
   subst e;cases hf;obtain⟨o',ho',hd,h⟩:=h;rw[ho]at ho';cases ho';exact⟨hd,h⟩
  split at hf
  case isFalse=>cases hf
  rename_i hpass;cases hft:tl.front (a5e ops eff) i with
  |none=>rw[hft]at hf;cases hf
  |some T2=>
  rw[hft]at hf;cases hf;simp only[a5e,qa,qv,qK]at hpass;obtain⟨hje,hjap⟩:=hpass;replace hje:=hje.imp_left λq=>q.imp_right λw=>w.1
  obtain⟨oj,hoj,hdj,h⟩:=h;obtain⟨hap,hs1,hs2⟩:=c9L hoj ho hjap;obtain⟨a1,a2,a3⟩:=Oper.apart_spec hap;have fwd:∀(vj:Value) a,Fr n F a->Fr n (putF oj vj F) (a.put oj.dst vj):=λvj a ha=>ha.putF hdj
  have back:∀(hx hy:Lr)(vj u:Value)(m':View),m.le m'->(∀w,St m' hy w->St m hx w)->(∀d,o.dst=some d->d<n.num)->POg P ops n hx oj F m vj->POg P ops n hy oj (putF o u F) m' vj:=λhx hy vj u m' hm hxy hdi hpo=>⟨λa w ha st=>by
   obtain⟨a0,ha0,e1,e2⟩:=a4V (ops:=ops) hdi hs1 a3 ha;have:=hpo.e a0 w ha0 (hxy w st);rwa [e1,e2]at this⟩
  have lit:∀(vj:Value),(∀d,o.dst=some d->d<n.num)->(∀v hp',hp.Sublist hp'->SRr P ops Q n eff t hs T2 (putF o v (putF oj vj F)) hp' m->SRr P ops Q n eff t hs (.op j T2) (putF o v F) hp' m) ->
   (MK P n hs o (putF oj vj F) hp m λv hp'=>SRr P ops Q n eff t hs T2 (putF o v (putF oj vj F)) hp' m)->MK P n hs o F hp m λv hp'=>SRr P ops Q n eff t hs (.op j T2) (putF o v F) hp' m:=λvj hdi put hm=>by
   refine⟨λs a ha=>?_,λa ha k cs e hout b s=>?_⟩
   ·have:=hm.ex (s.putF vj hdj) _ (fwd vj a ha)
    rwa [execOp_put o hs2 a oj.dst vj a1]at this
   ·refine put _ _ (qo _ _) (hm.k _ (fwd vj a ha) k cs e (by rwa [execOp_put o hs2 a oj.dst vj a1]) b ((s.putF vj hdj).congr λq=>(X0 a2 q).symm))
  cases hej:eff.contains j with
  |false=>
   rw[hej]at h;simp only at h;obtain⟨vj,hpo,hrest⟩:=h;obtain⟨hdi,ih⟩:=SRr.front hX ho tl T2 hft (sat.putF vj hdj) hrest;refine⟨hdi,?_⟩;have put:∀v hp' m',m.le m'->SRr P ops Q n eff t hs T2 (putF o v (putF oj vj F)) hp' m'->SRr P ops Q n eff t hs (.op j T2) (putF o v F) hp' m':=λv hp' m' hm hr=>by
    refine⟨oj,hoj,hdj,?_⟩;rw[hej];exact⟨vj,back hs hs vj v m' hm (λw st=>st.weaken hm (zi _)) hdi hpo,SRr.congr _ (λq=>X0 a2 q) hr⟩
   cases hc:eff.contains i with
   |true=>
    rw[hc]at ih;simp only at ih⊢;cases hr:a6t o with
    |true=>rw[hr]at ih;simp only at ih⊢;obtain⟨v,h1,h2⟩:=ih;refine⟨v,⟨λa w ha st=>?_⟩,put v hp m (View.le.refl m) h2⟩;have:=h1.e _ w (fwd vj a ha) st;rwa [execOp_put o hs2 a oj.dst vj a1,wanted_put o a oj.dst vj a1]at this
    |false=>
     rw[hr]at ih;simp only at ih⊢;cases hmk:a4n o&&eff.contains 4096 with
     |true=>rw[hmk]at ih;simp only at ih⊢;exact lit vj hdi (λv hp' _ hr=>put v hp' m (View.le.refl m) hr) ih
     |false=>
     rw[hmk]at ih;simp only at ih⊢;refine⟨λfr a w ha st=>?_⟩;have:=ih.e fr _ w (fwd vj a ha) st;rw[execOp_put o hs2 a oj.dst vj a1,wanted_put o a oj.dst vj a1]at this;obtain⟨h1,h2⟩:=this;refine⟨λhw=>(h1 hw).mono ?_,λhw=>⟨(h2 hw).1,put _ _ _ (View.le.refl m) (h2 hw).2⟩⟩;rintro v w' ⟨m',hp',b1,b2,b0,b3⟩;exact⟨m',hp',b1,b2,b0,put _ _ _ b1 b3⟩
   |false=>rw[hc]at ih;simp only at ih⊢;obtain⟨v,h1,h2⟩:=ih;refine⟨v,⟨λa w ha st=>?_⟩,put v hp m (View.le.refl m) h2⟩;have:=h1.e _ w (fwd vj a ha) st;rwa [execOp_put o hs2 a oj.dst vj a1,wanted_put o a oj.dst vj a1]at this
  |true=>
   rw[hej]at h;simp only at h;cases hrj:a6t oj with
   |true=>
    have hai:a9Z o=true:=by
     rcases hje with(hje|hje)|hje
     ·rw[hej]at hje;cases hje
     ·simp only[c7M,hoj,ho,qa]at hje
      exact hje.2
     ·rcases hje.2 with(h2|h2)|h2
      ·simp only[b5T,ho]at h2
       exact a5F h2.1
      ·simp only[b5T,hoj]at h2
       rw[a5P (a5F h2.1)]at hrj;cases hrj
      ·simp only[c9s,hoj,hrj]at h2
       cases h2.2
    have hri:=a5P hai;rw[hrj]at h;simp only at h;obtain⟨vj,hpo,hrest⟩:=h;obtain⟨hdi,ih⟩:=SRr.front hX ho tl T2 hft (sat.putF vj hdj) hrest;refine⟨hdi,?_⟩;have put:∀v hp' m',m.le m'->hp.Sublist hp'->SRr P ops Q n eff t hs T2 (putF o v (putF oj vj F)) hp' m'->SRr P ops Q n eff t hs (.op j T2) (putF o v F) hp' m':=λv hp' m' hm hsub hr=>by
     refine⟨oj,hoj,hdj,?_⟩;rw[hej,hrj];exact⟨vj,back (hp++hs) (hp'++hs) vj v m' hm (λw st=>st.weakS hm hsub) hdi hpo,SRr.congr _ (λq=>X0 a2 q) hr⟩
    cases hc:eff.contains i with
    |true=>
     rw[hc]at ih;simp only at ih⊢;rw[hri]at ih⊢;simp only at ih⊢;cases hmk:a4n o&&eff.contains 4096 with
     |true=>rw[hmk]at ih;simp only at ih⊢;exact lit vj hdi (λv hp' hsub hr=>put v hp' m (View.le.refl m) hsub hr) ih
     |false=>
     rw[hmk]at ih;simp only at ih⊢;refine⟨λfr a w ha st=>?_⟩;have:=ih.e fr _ w (fwd vj a ha) st;rw[execOp_put o hs2 a oj.dst vj a1,wanted_put o a oj.dst vj a1]at this;obtain⟨h1,h2⟩:=this;refine⟨λhw=>(h1 hw).mono ?_,λhw=>⟨(h2 hw).1,put _ _ _ (View.le.refl m) ((h2 hw).1 hai) (h2 hw).2⟩⟩;rintro v w' ⟨m',hp',b1,b2,b0,b3⟩;exact⟨m',hp',b1,b2,b0,put _ _ _ b1 (b0 hai) b3⟩
    |false=>rw[hc]at ih;simp only at ih⊢;obtain⟨v,h1,h2⟩:=ih;refine⟨v,⟨λa w ha st=>?_⟩,put v hp m (View.le.refl m) (zi _) h2⟩;have:=h1.e _ w (fwd vj a ha) st;rwa [execOp_put o hs2 a oj.dst vj a1,wanted_put o a oj.dst vj a1]at this
   |false=>
    rw[hrj]at h;simp only at h;obtain⟨h4096,hcase⟩:eff.contains 4096=true/\((b5T ops i=true/\eff.contains i=true)\/((b5T ops j=true\/c7A ops i=true)/\eff.contains i=false)):=by
     rcases hje with(hje|hje)|hje
     ·rw[hej]at hje;cases hje
     ·simp only[c7M,hoj,ho,qa]at hje
      rw[hrj]at hje;cases hje.1
     ·rcases hje with⟨h1,(h2|h2)|h2⟩
      ·exact⟨h1,.inl h2⟩
      ·exact⟨h1,.inr ⟨.inl h2.1,h2.2⟩⟩
      ·exact⟨h1,.inr ⟨.inr h2.1.1,h2.1.2⟩⟩
    have hX:=hX h4096;simp only[b5T,c7A,ho,hoj]at hcase;cases hmkj:a4n oj with
    |false=>
     rw[hmkj]at hcase;rw[hmkj]at h;simp only[zu]at h;have reach:∀fr a w,Fr n F a->St m (fr++(hp++hs)) w->∃v hp' m',Sat n hs (putF oj v F) hp' m'/\SRr P ops Q n eff t hs tl (putF oj v F) hp' m':=λfr a w ha st=>by
      obtain⟨h1,h2⟩:=h.e fr a w ha st;cases hw:Region.wanted oj (yielded ops a.tmps)with
      |true=>obtain⟨v,w',m',hp',b1,b2,b0,b3⟩:=(h1 hw).act hX ha.none;exact⟨v,hp',m',⟨fr,_,w',fwd v a ha,b2⟩,b3⟩
      |false=>exact⟨undef,hp,m,⟨fr,_,w,fwd undef a ha,st⟩,(h2 hw).2⟩
     rcases hcase with⟨hmi,hc⟩|⟨hwf,hc⟩
     case inr=>
      have hwf:=hwf.resolve_left nofun;obtain⟨hg,hfree⟩:=b8T hwf;have hwn:∀y,Region.wanted o y=true:=λy=>by unfold Region.wanted;rw[hg]
      have ih:∀v hp' m',Sat n hs (putF oj v F) hp' m'->SRr P ops Q n eff t hs tl (putF oj v F) hp' m'->(∀d,o.dst=some d->d<n.num)/\∃u,POg P ops n hs o (putF oj v F) m' u/\SRr P ops Q n eff t hs T2 (putF o u (putF oj v F)) hp' m':=λv hp' m' s hr=>by
       have:=SRr.front (λ_=>hX) ho tl T2 hft s hr;rwa [hc]at this
      rw[hc];simp only;obtain⟨fr,a,w,ha,st⟩:=sat;obtain⟨v,hp',m',s,hr⟩:=reach fr a w ha st;obtain⟨hdi,u,hpu,_⟩:=ih v hp' m' s hr;obtain⟨_,_,w1,_,st1⟩:=s;have hpo:POg P ops n hs o F m u:=⟨λa w ha st=>by
       have:=(hpu.e _ w1 (fwd v a ha) (st1.sub ((qc _ hs).trans (qc _ _)))).1 (hwn _);rw[execOp_put o hs2 a oj.dst v a1]at this;exact⟨λ_=>hfree _ _ _ _ this,λh=>by rw[hwn]at h;cases h⟩⟩
      refine⟨hdi,u,hpo,oj,hoj,hdj,?_⟩;rw[hej,hrj,hmkj];simp only[zu];refine⟨λfr a' w ha' st=>?_⟩;obtain⟨a0,ha0,e1,e2⟩:=a4V (ops:=ops) hdi hs1 a3 ha';have hj:=h.e _ a0 w ha0 st;rw[e1,e2]at hj;have go:∀{v:Value}{w':World}{hp':Lr}{m':View},St m' (fr++(hp'++hs)) w'->SRr P ops Q n eff t hs tl (putF oj v F) hp' m' ->
       SRr P ops Q n eff t hs T2 (putF oj v (putF o u F)) hp' m':=λ{v w' hp' m'} st' hr=>by
       obtain⟨_,u1,hp1,hr1⟩:=ih v hp' m' ⟨_,_,w',fwd v a0 ha0,st'⟩ hr;have ev:u1=u:=by have q1:=(hp1.e _ w' (fwd v a0 ha0) (st'.sub ((qc _ hs).trans (qc _ _)))).1 (hwn _);rw[execOp_put o hs2 a0 oj.dst v a1]at q1;have q2:=(hpo.e a0 w ha0 (st.sub ((qc _ hs).trans (qc _ _)))).1 (hwn _);have:=(hfree _ _ _ w q1).symm.trans q2;simpa using this
       subst ev;exact SRr.congr _ (λq=>X0 a2 q) hr1
      refine⟨λhw=>(hj.1 hw).mono ?_,λhw=>⟨(hj.2 hw).1,go st (hj.2 hw).2⟩⟩;rintro v w' ⟨m',hp',b1,b2,b0,b3⟩;exact⟨m',_,b1,b2,b0,go b2 b3⟩
     have ih:∀v hp' m',Sat n hs (putF oj v F) hp' m'->SRr P ops Q n eff t hs tl (putF oj v F) hp' m'->(∀d,o.dst=some d->d<n.num)/\MK P n hs o (putF oj v F) hp' m' λv' hq=>SRr P ops Q n eff t hs T2 (putF o v' (putF oj v F)) hq m':=λv hp' m' s hr=>by
      have:=SRr.front (λ_=>hX) ho tl T2 hft s hr;rwa [hc,a5P (a5F hmi),hmi,h4096]at this
     rw[hc,a5P (a5F hmi),hmi,h4096];simp only[qG];have hdi:∀d,o.dst=some d->d<n.num:=by obtain⟨fr,a,w,ha,st⟩:=sat;obtain⟨v,hp',m',s,hr⟩:=reach fr a w ha st;exact(ih v hp' m' s hr).1
     refine⟨hdi,λs a ha=>?_,λa ha k cs e hout b s=>?_⟩
     ·obtain⟨fr,a',w,ha',st⟩:=s
      obtain⟨v,hp',m',s,hr⟩:=reach fr a' w ha' st;have:=(ih v hp' m' s hr).2.ex s _ (fwd v a ha);rwa [execOp_put o hs2 a oj.dst v a1]at this
     ·refine⟨oj,hoj,hdj,?_⟩
      rw[hej,hrj,hmkj];simp only[zu];refine⟨λfr a' w ha' st=>?_⟩;obtain⟨a0,ha0,e1,e2⟩:=a4V (ops:=ops) hdi hs1 a3 ha';have st1:St m ((fr++[.pt b (.cells cs e (0,0))])++(hp++hs)) w:=by simpa using st
      have hj:=h.e _ a0 w ha0 st1;rw[e1,e2]at hj;have go:∀{v:Value}{w':World}{hp':Lr}{m':View},St m' ((fr++[.pt b (.cells cs e (0,0))])++(hp'++hs)) w'->SRr P ops Q n eff t hs tl (putF oj v F) hp' m' ->
       SRr P ops Q n eff t hs T2 (putF oj v (putF o (.slice (some ⟨b,0,none⟩) k k) F)) (.pt b (.cells cs e (0,0))::hp') m':=λ{v w' hp' m'} st' hr=>by
       have hm:=(ih v hp' m' ⟨_,_,w',fwd v a0 ha0,st'⟩ hr).2;refine SRr.congr _ (λq=>X0 a2 q) (hm.k _ (fwd v a ha) k cs e (by rwa [execOp_put o hs2 a oj.dst v a1]) b ?_);exact Sat.congr ⟨fr,_,w',ha'.putF hdj,by simpa using st'⟩ λq=>(X0 a2 q).symm
      refine⟨λhw=>(hj.1 hw).mono ?_,λhw=>⟨λ_=>zi _,go st1 (hj.2 hw).2⟩⟩;rintro v w' ⟨m',hp',b1,b2,b0,b3⟩;exact⟨m',_,b1,by simpa using b2,λhal=>(b0 hal).cons_cons _,go b2 b3⟩
    |true=>
     rw[hmkj,h4096]at h;simp only[qG]at h;have hmkj':(a4n oj&&eff.contains 4096)=true:=by rw[hmkj,h4096];rfl
     have first:∃u hq,Sat n hs (putF oj u F) hq m/\SRr P ops Q n eff t hs tl (putF oj u F) hq m:=by obtain⟨fr,a,w,ha,st⟩:=sat;obtain⟨k,cs,e,_,st',hk⟩:=h.run hdj ha st;exact⟨_,_,⟨fr,_,_,fwd _ a ha,st'⟩,hk⟩
     obtain⟨u,hq,s0,hk0⟩:=first
     obtain⟨hdi,ih0⟩:=SRr.front (λ_=>hX) ho tl T2 hft s0 hk0;refine⟨hdi,?_⟩;rcases hcase with⟨hmi,hc⟩|⟨_,hc⟩
     ·have ih:∀v hp' m',Sat n hs (putF oj v F) hp' m'->SRr P ops Q n eff t hs tl (putF oj v F) hp' m'->MK P n hs o (putF oj v F) hp' m' λv' hq=>SRr P ops Q n eff t hs T2 (putF o v' (putF oj v F)) hq m':=λv hp' m' s hr=>by
       have:=(SRr.front (λ_=>hX) ho tl T2 hft s hr).2;rwa [hc,a5P (a5F hmi),hmi,h4096]at this
      rw[hc,a5P (a5F hmi),hmi,h4096];simp only[qG];refine⟨λs a ha=>?_,λa ha k cs e hout b s=>?_⟩
      ·have:=(ih _ _ _ s0 hk0).ex s0 _ (fwd u a ha)
       rwa [execOp_put o hs2 a oj.dst u a1]at this
      ·refine⟨oj,hoj,hdj,?_⟩
       rw[hej,hrj,hmkj'];refine⟨λs' a' ha'=>?_,λa' ha' k' cs' e' hout' b' s'=>?_⟩
       ·obtain⟨a0,ha0,e1,_⟩:=a4V (ops:=ops) hdi hs1 a3 ha'
        have:=h.ex (s'.less.unput hdi) a0 ha0;rwa [e1]at this
       ·obtain⟨a0,ha0,e1,_⟩:=a4V (ops:=ops) hdi hs1 a3 ha'
        have s1:=s'.congr λq=>(X0 (v:=.slice (some ⟨b,0,none⟩) k k) (u:=.slice (some ⟨b',0,none⟩) k' k') (F:=F) a2 q).symm
        have s2:=s1.perm (qF _ _ _);have hr:=h.k a0 ha0 k' cs' e' (by rwa [e1]) b' (s2.less.unput hdi);have hm:=(ih _ _ _ (s2.less.unput hdi) hr).k _ (fwd _ a ha) k cs e (by rwa [execOp_put o hs2 a oj.dst _ a1]) b s2;exact SRr.congr _ (λq=>X0 a2 q) (SRr.perm _ (qF _ _ _) hm)
     ·rw[hc]at ih0⊢
      simp only at ih0⊢;obtain⟨v0,hp0,_⟩:=ih0;have hpo:POg P ops n hs o F m v0:=⟨λa w ha st=>by
       have:=hp0.e _ w (fwd u a ha) st;rwa [execOp_put o hs2 a oj.dst u a1,wanted_put o a oj.dst u a1]at this⟩
      refine⟨v0,hpo,oj,hoj,hdj,?_⟩;rw[hej,hrj,hmkj'];refine⟨λs' a' ha'=>?_,λa' ha' k' cs' e' hout' b' s'=>?_⟩
      ·obtain⟨a0,ha0,e1,_⟩:=a4V (ops:=ops) hdi hs1 a3 ha'
       have:=h.ex (s'.unput hdi) a0 ha0;rwa [e1]at this
      ·obtain⟨a0,ha0,e1,_⟩:=a4V (ops:=ops) hdi hs1 a3 ha'
       have s1:=s'.congr λq=>(X0 (v:=v0) (u:=.slice (some ⟨b',0,none⟩) k' k') (F:=F) a2 q).symm
       have s2:=s1.unput hdi;have hr:=h.k a0 ha0 k' cs' e' (by rwa [e1]) b' s2;have:=(SRr.front (λ_=>hX) ho tl T2 hft s2 hr).2;rw[hc]at this;simp only at this;obtain⟨v1,hp1,hr1⟩:=this;have ev:v1=v0:=by
        obtain⟨fr,a4,w4,ha4,st4⟩:=s2;have stH:St m hs w4:=st4.sub ((qc _ hs).trans (qc _ _));obtain⟨a5,ha5,e5,e6⟩:=a4V (ops:=ops) (oi:=oj) (oj:=o) hdj hs2 a1 ha4;have q1:=hp1.e a4 w4 ha4 stH;have q2:=hpo.e a5 w4 ha5 stH;rw[e5,e6]at q2;cases hw:Region.wanted o (yielded ops a4.tmps)with
        |true=>have:=(q1.1 hw).symm.trans (q2.1 hw);simpa using this
        |false=>rw[q1.2 hw,q2.2 hw]
       subst ev;exact SRr.congr _ (λq=>X0 a2 q) hr1
theorem a4T{L:Array Bool}{i k:Nat}(d:Bool)(hi:i<L.size):(L.setIfInBounds i true).getD k d=if k=i then true else L.getD k d:=by
 by_cases h:k=i
 ·subst h;simp[hi]
 ·rw[if_neg h,getD_set_ne d (Ne.symm h)]
theorem a6x{L:Array Bool}{i:Nat}{o:Oper}(hi:i<L.size)(ho:ops[i]?=some o)(hc:a9P ops L)(hp:∀p∈Q0 o,L.getD p false=true):a9P ops (L.setIfInBounds i true):=by
 intro j o' ho' hj hs p hpd;rw[a4T false hi];split
 ·rfl
 ·rw[a4T true hi]at hj
  by_cases h:j=i
  ·subst h
   rw[ho]at ho';cases ho'
   exact hp p hpd
  ·rw[if_neg h]at hj
   exact hc j o' ho' hj (by simpa using hs) p hpd
theorem a1c{L:Array Bool}{i:Nat}:i∈Region.ready .any ops L↔L.getD i true=false/\∃o,ops[i]?=some o/\∀p∈Q0 o,L.getD p false=true:=by
 rw[mem_ready];constructor
 ·rintro⟨h0,o,ho,h⟩
  refine⟨h0,o,ho,λp hp=>?_⟩;simp only[Q0,jb,List.mem_filter]at hp;obtain⟨e,⟨he,hb⟩,rfl⟩:=hp;exact h e (by simpa using he) hb
 ·rintro⟨h0,o,ho,h⟩
  refine⟨h0,o,ho,λe he hb=>h e.on ?_⟩;simp only[Q0,jb,List.mem_filter];exact⟨e,⟨by simpa using he,hb⟩,rfl⟩
theorem a6o{L:Array Bool}{l:List Nat}(hsz:L.size=ops.size)(hun:∀i,i<ops.size->(L.getD i true=false↔i∈l))(hlt:∀i o,ops[i]?=some o->∀p∈Q0 o,p<i)(hin:∀i∈l,i<ops.size) :
 ∀i∈l,Region.ready .any ops L≠[]:=by
 intro i;induction i using Nat.strongRecOn with
 |_ i ih=>
  intro hi;have hs:=hin i hi;by_cases h:∀p∈Q0 ops[i],L.getD p false=true
  ·intro he
   have:i∈Region.ready .any ops L:=a1c.2 ⟨(hun i hs).2 hi,ops[i],z2 hs,h⟩;rw[he]at this;cases this
  ·obtain⟨p,hp⟩:=Classical.not_forall.1 h
   obtain⟨hpd,hpl⟩:=Classical.not_imp.1 hp;have hpi:=hlt i _ (z2 hs) p hpd;have hps:p<ops.size:=by omega
   refine ih p hpi ((hun p hps).1 ?_);have hpL:p<L.size:=by omega
   simp[hpL]at hpl⊢;exact hpl
theorem a2x{L:Array Bool}{i:Nat}(h1:L.getD i false=true)(h2:L.getD i true=false):False:=by
 rcases ze i L.size with h|h
 ·simp[h]at h1 h2;rw[h1]at h2;cases h2
 ·simp[Array.getElem?_eq_none h]at h1
theorem b5j{Q:Exit->Pw}(hlt:∀i o,ops[i]?=some o->∀p∈Q0 o,p<i):∀(t:List Nat)(L:Array Bool)(a:Act)(w:World),L.size=ops.size->a9P ops L ->
 (∀i,i<ops.size->(L.getD i true=false↔i∈t))->(∀i∈t,i<ops.size)->t.Pairwise (λi j=>i≠j)->t.Pairwise (λi j=>((clo ops.toList).getD j 0).testBit i=true) ->
 wpList P ops Q (t.filterMap (ops[·]?)) a w->wpAny P .any ops Q t.length L a w
 | [],L,a,w,hsz,_,hun,_,_,_,h=>by
  refine⟨?_,h⟩;apply List.eq_nil_iff_forall_not_mem.2;intro i hi;obtain⟨h0,o,ho,_⟩:=a1c.1 hi;have:=(hun i (zn.1 ho).1).1 h0;cases this
 |j::t,L,a,w,hsz,hc,hun,hin,hnd,hch,h=>by
  have hne:=a6o hsz hun hlt hin j (by simp);refine⟨λh0=>absurd h0 hne,λi hi=>?_⟩;obtain⟨h0,o,ho,hp⟩:=a1c.1 hi;have his:=(zn.1 ho).1;have him:=(hun i his).1 h0;have hij:i=j:=by
   rcases qQ.1 him with e|e
   ·exact e
   ·have hb:=(qR.1 hch).1 i e
    have:=a1n hc i o j ho hp hb;exact(a2x this ((hun j (hin j (by simp))).2 (by simp))).elim
  subst hij;have hiL:i<L.size:=by omega
  simp only[List.filterMap_cons,ho]at h;have nxt:∀a w,wpList P ops Q (t.filterMap (ops[·]?)) a w->wpAny P .any ops Q t.length (L.setIfInBounds i true) a w:=λa w hw=>
   b5j hlt t _ a w (by simpa using hsz) (a6x hiL ho hc hp) (λk hk=>by
    rw[a4T true hiL];by_cases e:k=i
    ·subst e
     simp only[if_true,Bool.true_eq_false,false_iff];intro hk';exact(qR.1 hnd).1 k hk' rfl
    ·rw[if_neg e,hun k hk];simp[e]) (λk hk=>hin k (by simp[hk])) (qR.1 hnd).2 (qR.1 hch).2 hw
  unfold wpOp;simp only[ho];unfold wpList at h;split
  ·rename_i hw
   rw[if_pos hw]at h;exact h.imp (Oper.wp_mono nxt) id
  ·rename_i hw
   rw[if_neg hw]at h;exact nxt _ _ h
structure FlAt(P:Program)(ops:Array Oper)(n:Cx)(q:Nat×Fl):Prop where
 e:∃ty pos after z,ops[q.1]?=some ⟨some q.2.1,.alloc q.2.2.2,ty,pos,after,none⟩/\(P.info? q.2.2.2).bind (·.zero)=some z/\W4 z=some q.2.2.1/\q.2.1<n.num
def c0O(q:Nat×Nat×Fl):Res:=.pt q.1 (.cells q.2.2.2.1.toArray q.2.2.2.2 (0,0))
theorem b8M{α β:Type}(f:α->β){l:List α}{r:List β}(h:(l.map f).Perm r):∃l':List α,l'.Perm l/\l'.map f=r:=by
 generalize hk:l.map f=k at h;induction h generalizing l with
 |nil=>cases l with
  |nil=>exact⟨[],.refl _,rfl⟩
  |cons x l=>cases hk
 | @cons x k1 k2 _ ih=>
  cases l with
  |nil=>cases hk
  |cons y l=>simp only[zo,List.cons.injEq]at hk;obtain⟨l',h1,h2⟩:=ih hk.2;exact⟨y::l',h1.cons y,by simp[h2,hk.1]⟩
 |swap x y k=>
  match l,hk with
  |a::b::l,hk=>simp only[zo,List.cons.injEq]at hk;exact⟨b::a::l,.swap _ _ _,by simp[hk]⟩
 |trans _ _ ih1 ih2=>obtain⟨l1,h1,h2⟩:=ih1 hk;obtain⟨l2,h3,h4⟩:=ih2 h2;exact⟨l2,h3.trans h1,h4⟩
theorem b3u:∀(dn:List (Nat×Nat×Fl)){F:Fm}{h:Lr}{m:View}{a:Act}{w:World},a2z P ops Q n t (dn.map (·.2.2)) F h m->Fr n F a->(∀q∈dn,a.tmps[q.2.2.1]?=some (.pointer (some ⟨q.1,0,none⟩))) ->
 St m (dn.map c0O++h) w->wpList P ops (a0K Q) (t.t.filterMap (ops[·]?)) a w
 | [],F,h,m,a,w,k,ha,_,st=>WL.e k a w ha st
 |(b,i,d,zs,x)::dn,F,h,m,a,w,k,ha,hd,st=>by
  refine b3u dn (k b) ⟨ha.d,ha.sz,λq v hq=>?_⟩ (λq hq=>hd q (by simp[hq])) (st.perm ?_)
  ·simp only[look]at hq
   cases e:Nat.beq d q with
   |true=>rw[e]at hq;cases hq;rw[<-zb e];exact hd (b,i,d,zs,x) (by simp)
   |false=>rw[e]at hq;exact ha.get q v hq
  ·simp only[zo,qN]
   exact qL.symm
theorem c3V{s t:List Nat}{u1 u2:List (Nat×Fl)}{q:Nat×Fl}{k:Nat}(e:k≠q.1):k∈s++((u1++q::u2).map (·.1)++t)↔k∈s++((u1++u2).map (·.1)++t):=by simp only[qY,qZ,zo,qQ,e,false_or]
theorem b0M{o:Oper}(h:a7F o=true):o.guard=none/\(∃d,o.dst=some d)/\∀(ρ:Operand->Value)(v:Value)(w:World),(execOp ρ o).run P w=.ok (.value v) w->∀w',(execOp ρ o).run P w'=.ok (.value v) w':=by
 unfold a7F at h;split at h
 ·refine⟨rfl,⟨_,rfl⟩,λρ v w hr w'=>?_⟩
  simp only[execOp,Instr.extract]at hr⊢;split at hr
  ·split at hr
   ·simp_all
   ·simp_all
  ·simp_all
 ·refine⟨rfl,⟨_,rfl⟩,λρ v w hr w'=>?_⟩
  simp only[execOp]at hr⊢;simp_all
 ·cases h
theorem c3w{Q:Exit->Pw}(lp:List Nat)(hQ:lp≠[]->∀c a w d v,Q (.panic c) (a.put (some d) v) w->Q (.panic c) a w)(hX:eff.contains 4096=true->∀c a w,Q (.panic c) a w->False)(hlp:∀p∈lp,eff.contains p=false/\b2A ops p=true)(hsel:Region.noSelect ops=true)(hlt:∀i o,ops[i]?=some o->∀p∈Q0 o,p<i)
 (htc:t.t.Pairwise (λi j=>((clo ops.toList).getD j 0).testBit i=true)) (fs:List (Nat×Fl)) (hops:∀q∈fs,FlAt P ops n q) (hdis:fs.Pairwise (λp q=>p.2.1≠q.2.1)) (hfl:t.fl=fs.map (·.2))
 (s0:List Nat) (hG:∀i o,i∈s0->ops[i]?=some o->∀q∈fs,o.dst≠some q.2.1) (htu:∀j∈t.t,∀q∈fs,((clo ops.toList).getD j 0).testBit q.1=true) :
 ∀(N:Nat)(u:List (Nat×Fl))(dn:List (Nat×Nat×Fl))(T:Tr)(L:Array Bool)(a:Act)(w:World)(F:Fm)(hp:Lr)(m:View),T.ops.length+u.length=N->(dn.map (·.2)++u).Perm fs->(∀i∈T.ops,i∈s0)->(∀q∈fs,look F q.2.1=none) ->
 (∀q∈dn,a.tmps[q.2.2.1]?=some (.pointer (some ⟨q.1,0,none⟩)))->L.size=ops.size->a9P ops L ->
 (∀i,i<ops.size->(L.getD i true=false↔i∈T.ops++(u.map (·.1)++t.t)))->(∀i∈T.ops++(u.map (·.1)++t.t),i<ops.size)->(T.ops++(u.map (·.1)++t.t)).Pairwise (λi j=>i≠j) ->
 T.wf=true->T.full (a5e ops eff) (λj i=>((clo ops.toList).getD i 0).testBit j)=true->T.sub (a5e ops eff) (λj i=>((clo ops.toList).getD i 0).testBit j)=true ->
 (∀j∈t.t,∀i∈T.ops,((clo ops.toList).getD j 0).testBit i=true\/(i∈lp/\∀d∈b3D ops i,((clo ops.toList).getD j 0).testBit d=true)) ->
 Fr n F a->St m (dn.map c0O++(hp++hs)) w->SRr P ops Q n eff t hs T F hp m->wpAny P .any ops (a0K Q) (T.ops++(u.map (·.1)++t.t)).length L a w:=by
 intro N;induction N with
 |zero=>
  intro u dn T L a w F hp m hN hpm hs0 hga hdn hsz hc hun hin hnd hwf hfull hsub hst ha hs' h;have e:T.ops=[]:=qB (by omega);have e2:u=[]:=qB (by omega);subst e2;rw[e]at hun hin hnd hst⊢;rw[zF]at hpm;obtain⟨dn',hp1,hp2⟩:=b8M (λq:Nat×Nat×Fl=>q.2) hpm;refine b5j hlt t.t L a w hsz hc hun hin hnd htc (b3u (P:=P) (t:=t) dn' (F:=F) (h:=hp++hs) (m:=m) ?_ ha (λq hq=>hdn q (hp1.mem_iff.1 hq)) (hs'.perm ((hp1.map c0O).symm.append_right _)));have e3:dn'.map (·.2.2)=t.fl:=by rw[hfl,<-hp2,List.map_map];rfl
  rw[e3];exact h.endT e
 |succ N ih=>
  intro u dn T L a w F hp m hN hpm hs0 hga hdn hsz hc hun hin hnd hwf hfull hsub hst ha hs' h;have hum:∀q∈u,q∈fs:=λq hq=>hpm.mem_iff.1 (by simp[hq])
  have hne:Region.ready .any ops L≠[]:=by
   cases hT:T.ops with
   |nil=>
    cases u with
    |nil=>rw[hT]at hN;simp at hN
    |cons q u=>exact a6o hsz hun hlt hin q.1 (by simp)
   |cons j s=>exact a6o hsz hun hlt hin j (by rw[hT];simp)
  have hlen:(T.ops++(u.map (·.1)++t.t)).length=(N+t.t.length)+1:=by simp;omega
  have step:∀i o,ops[i]?=some o->i∈T.ops->(∀p∈Q0 o,L.getD p false=true)->∃T',T.front (a5e ops eff) i=some T' /\
   ∀(v:Value)(w':World)(hp':Lr)(m':View),(∀d,o.dst=some d->d<n.num)->St m' (dn.map c0O++(hp'++hs)) w'->SRr P ops Q n eff t hs T' (putF o v F) hp' m' ->
    wpAny P .any ops (a0K Q) (N+t.t.length) (L.setIfInBounds i true) (a.put o.dst v) w':=λi o ho hins hpd=>by
   have his:=(zn.1 ho).1;have hiL:i<L.size:=by omega
   have hmay:T.may (a5e ops eff) (λj i=>((clo ops.toList).getD i 0).testBit j) i=true:=by have h1:=hfull;simp only[Tr.full,zc]at h1;exact h1 i hins
   obtain⟨T',hfr⟩:=Tr.front_may hmay hwf λj hj=>by
    cases hb:((clo ops.toList).getD i 0).testBit j with
    |false=>rfl
    |true=>have:=a1n hc i o j ho hpd hb;exact(a2x this ((hun j (hin j (by simp[hj]))).2 (by simp[hj]))).elim
   obtain⟨hperm,hwf'⟩:=Tr.front_perm hwf hfr;obtain⟨hsub',hfull'⟩:=Tr.front_sub hwf hsub hfr;have hpl:=hperm.length_eq;simp only[qJ]at hpl;have hlen':N+t.t.length=(T'.ops++(u.map (·.1)++t.t)).length:=by simp at hN⊢;omega
   refine⟨T',hfr,λv w' hp' m' hdn' hst' hr=>?_⟩
   ·skip
    rw[hlen'];have hpR:(T.ops++(u.map (·.1)++t.t)).Perm (i::(T'.ops++(u.map (·.1)++t.t))):=hperm.append_right _;have hnd2:(i::(T'.ops++(u.map (·.1)++t.t))).Pairwise (λi j=>i≠j):=(List.Perm.pairwise_iff (λ{_ _} e=>Ne.symm e) hpR).1 hnd;have hsubR:∀k,k∈T'.ops++(u.map (·.1)++t.t)->k∈T.ops++(u.map (·.1)++t.t):=λk hk=>hpR.mem_iff.2 (qt _ hk)
    have hsubT:∀k,k∈T'.ops->k∈T.ops:=λk hk=>hperm.mem_iff.2 (qt _ hk)
    have hni:i∉T'.ops++(u.map (·.1)++t.t):=λhx=>(qR.1 hnd2).1 i hx rfl
    have hod:∀q∈fs,o.dst≠some q.2.1:=hG i o (hs0 i hins) ho;refine ih u dn T' _ _ w' (putF o v F) hp' m' (by omega) hpm (λk hk=>hs0 k (hsubT k hk)) (λq hq=>?_) (λq hq=>?_) (by simpa using hsz) (a6x hiL ho hc hpd) (λk hk=>?_) (λk hk=>hin k (hsubR k hk)) (qR.1 hnd2).2
     hwf' hfull' hsub' (λj hj k hk=>hst j hj k (hsubT k hk)) (ha.putF hdn') hst' hr
    ·unfold putF
     have hq1:=hod q hq;cases e:o.dst with
     |none=>exact hga q hq
     |some d=>
      have hne:d≠q.2.1:=λx=>hq1 (by rw[e,x])
      simp only[look];cases hb:Nat.beq d q.2.1 with
      |true=>exact absurd (zb hb) hne
      |false=>exact hga q hq
    ·have hq1:=hod q.2 (hpm.mem_iff.1 (qY.2 (.inl (jb.2 ⟨q,hq,rfl⟩))))
     cases e:o.dst with
     |none=>exact hdn q hq
     |some d=>
      have hne:d≠q.2.2.1:=λx=>hq1 (by rw[e,x])
      simp only[Act.put,zk hne];exact hdn q hq
    ·rw[a4T true hiL]
     by_cases e:k=i
     ·subst e
      simp only[if_true,Bool.true_eq_false,false_iff];exact hni
     ·rw[if_neg e,hun k hk,hpR.mem_iff]
      exact⟨λh=>(qQ.1 h).resolve_left e,qt _⟩
  by_cases hsat:∃p∈lp,p∈T.ops/\∀d∈b3D ops p,L.getD d false=true
  ·-- one that looks at slots alone and is ready: first
   obtain⟨p,hpl,hps,hpd⟩:=hsat;obtain⟨hpe,hpk⟩:=hlp p hpl;simp only[b2A,qa]at hpk;cases ho:ops[p]? with
   |none=>rw[ho]at hpk;simp at hpk
   |some o=>
    rw[ho]at hpk;simp only[b3D,ho]at hpd;obtain⟨hg,⟨d,hd⟩,hwf⟩:=b0M (P:=P) hpk.1;obtain⟨T',hT',nxt⟩:=step p o ho hps hpd;obtain⟨hdn',hfr⟩:=SRr.front hX ho T T' hT' ⟨_,_,_,ha,hs'⟩ h;rw[hpe]at hfr;simp only at hfr;obtain⟨v,hpo,hr⟩:=hfr;have hrun:=(hpo.e a w ha (hs'.sub ((qc hp hs).trans (qc _ _)))).1 (by unfold Region.wanted;rw[hg]);rw[hlen];refine wpAny_first ho (Region.noSelect_spec hsel) (λc a w hh=>by rw[hd]at hh;exact hQ (List.ne_nil_of_mem hpl) c a w d v hh) _ L a w (λj oj hj hji hun hno=>?_) (by simpa using a1c.2 ⟨(hun p (zn.1 ho).1).2 (List.mem_append_left _ hps),o,ho,hpd⟩) (.inl ⟨by unfold Region.wanted;rw[hg],hwf _ v w hrun⟩) (nxt v w hp m hdn' hs' hr);refine Region.free_spec ho hpk.2 j oj hj hji ?_ hno;have hjs:=(zn.1 hj).1;cases hb:((clo ops.toList).getD p 0).testBit j with
    |true=>exact(a2x (a1n hc p o j ho hpd hb) hun).elim
    |false=>simp only[Array.getD_eq_getD_getElem?,Array.getElem?_map,Array.getElem?_range,if_pos hjs,Option.map_some,Option.getD_some];exact hb
  rw[hlen];refine⟨λh0=>absurd h0 hne,λi hi=>?_⟩;obtain⟨h0,o,ho,hpd⟩:=a1c.1 hi;have his:=(zn.1 ho).1;have hiL:i<L.size:=by omega
  have him:=(hun i his).1 h0;rcases qY.1 him with hins|him
  ·-- an operation of the order
   obtain⟨T',hT',nxt0⟩:=step i o ho hins hpd;obtain⟨hdn',hfr⟩:=SRr.front hX ho T T' hT' ⟨_,_,_,ha,hs'⟩ h;have nxt:=λv w' hp' m'=>nxt0 v w' hp' m' hdn'
   unfold wpOp;simp only[ho];cases hce:eff.contains i with
   |true=>
    rw[hce]at hfr;simp only at hfr;cases hrd:a6t o with
    |true=>
     rw[hrd]at hfr;simp only at hfr;obtain⟨v,hpo,hr⟩:=hfr;obtain⟨h1,h2⟩:=hpo.e a w ha (hs'.sub (qc _ _));split
     ·rename_i hw
      exact .inl (O5 (h1 hw) (nxt v w hp m hs' hr))
     ·rename_i hw
      have:=h2 (by simpa using hw);subst this;exact nxt undef w hp m hs' hr
    |false=>
     rw[hrd]at hfr;simp only at hfr;cases hmk:a4n o&&eff.contains 4096 with
     |true=>rw[hmk]at hfr;simp only at hfr;obtain⟨k,cs,e,hrun,st',hk⟩:=hfr.run hdn' ha hs';rw[if_pos (b40 (Bool.and_eq_true_iff.1 hmk).1 _)];exact .inl (O5 hrun (nxt _ _ _ m st' hk))
     |false=>
     rw[hmk]at hfr;simp only at hfr;obtain⟨h1,h2⟩:=hfr.e (dn.map c0O) a w ha hs';split
     ·rename_i hw
      refine .inl (b5S (h1 hw) ?_ λc w' hx=>hx a ⟨ha.d,ha.sz,λt v ht=>by cases ht⟩);rintro v w' ⟨m',hp',_,hst',_,hr⟩;exact nxt v w' hp' m' hst' hr
     ·rename_i hw
      exact nxt undef w hp m hs' (h2 (by simpa using hw)).2
   |false=>
    rw[hce]at hfr;simp only at hfr;obtain⟨v,hpo,hr⟩:=hfr;obtain⟨h1,h2⟩:=hpo.e a w ha (hs'.sub ((qc hp hs).trans (qc _ _)));split
    ·rename_i hw
     exact .inl (O5 (h1 hw) (nxt v w hp m hs' hr))
    ·rename_i hw
     have:=h2 (by simpa using hw);subst this;exact nxt undef w hp m hs' hr
  rcases qY.1 him with hiu|hit
  ·-- an allocation
   obtain⟨q,hqu,rfl⟩:=jb.1 hiu;obtain⟨u1,u2,rfl⟩:=List.append_of_mem hqu;obtain⟨ty,pos,after,z,ho0,hz,hzs,hd0⟩:=(hops q (hum q hqu)).e;rw[ho0]at ho;cases ho;have hrun:(execOp a.eval ⟨some q.2.1,.alloc q.2.2.2,ty,pos,after,none⟩).run P w=.ok (.value (.pointer (some ⟨w.heap.size,0,none⟩))) (w.alloc (.cells q.2.2.1.toArray q.2.2.2)):=by
    have hzs:=P4 hzs;rw[<-hzs];cases hi:P.info? q.2.2.2 with
    |none=>simp[hi]at hz
    |some i=>
     have e1:i.zero=some z:=by simpa [hi]using hz
     simp[execOp,Instr.alloc,zeroValue,typeInfo,hi,e1,newVar,newRow]
   have hsubl:(T.ops++((u1++u2).map (·.1)++t.t)).Sublist (T.ops++((u1++q::u2).map (·.1)++t.t)):=
    List.Sublist.append_left (List.Sublist.append_right ((List.Sublist.append_left (qo q u2) u1).map _) _) T.ops
   have hni:q.1∉T.ops++((u1++u2).map (·.1)++t.t):=by
    intro hx;have h1:(q.1::(T.ops++((u1++u2).map (·.1)++t.t))).Pairwise (λi j=>i≠j):=by refine(List.Perm.pairwise_iff (λ{_ _} e=>Ne.symm e) ?_).1 hnd;simp only[qZ,zo,qj,qN];rw[<-qj,<-qj];exact qL
    exact(qR.1 h1).1 _ hx rfl
   have hd2:(dn.map (·.2)++(u1++q::u2)).Pairwise (λp q=>p.2.1≠q.2.1):=(hpm.pairwise_iff (λ{_ _} e=>Ne.symm e)).2 hdis;have hpm':(((w.heap.size,q)::dn).map (·.2)++(u1++u2)).Perm (dn.map (·.2)++(u1++q::u2)):=by simp only[zo,qN];rw[<-qj,<-qj];exact qL.symm
   have hd3:∀p∈dn,q.2.1≠p.2.2.1:=λp hp=>by
    have:=(List.Perm.pairwise_iff (λ{_ _} e=>Ne.symm e) hpm').2 hd2;simp only[zo,qN]at this;exact(qR.1 this).1 p.2 (qY.2 (.inl (jb.2 ⟨p,hp,rfl⟩)))
   have:=ih (u1++u2) ((w.heap.size,q)::dn) T (L.setIfInBounds q.1 true) (a.put (some q.2.1) (.pointer (some ⟨w.heap.size,0,none⟩))) (w.alloc (.cells q.2.2.1.toArray q.2.2.2)) F hp m (by simp at hN⊢;omega) (hpm'.trans hpm) hs0 hga
    (λp hp=>by
     rcases qQ.1 hp with rfl|hp
     ·simp[Act.put,ha.sz,hd0]
     ·simp only[Act.put,zk (hd3 p hp)]
      exact hdn p hp) (by simpa using hsz) (a6x hiL ho0 hc hpd) (λk hk=>by
     rw[a4T true hiL];by_cases e:k=q.1
     ·subst e
      simp only[if_true,Bool.true_eq_false,false_iff];exact hni
     ·rw[if_neg e,hun k hk]
      exact c3V e) (λk hk=>hin k (hsubl.subset hk)) (hnd.sublist hsubl) hwf hfull hsub hst
    ⟨ha.d,by simpa [Act.put]using ha.sz,λp v hp=>by
     have hne:q.2.1≠p:=λe=>by rw[<-e,hga q (hum q hqu)]at hp;cases hp
     simp only[Act.put,zk hne];exact ha.get p v hp⟩ (hs'.alloc _) h
   have hl2:(T.ops++((u1++u2).map (·.1)++t.t)).length=N+t.t.length:=by simp at hN⊢;omega
   rw[hl2]at this;unfold wpOp;simp only[ho0];split
   ·exact .inl (O5 hrun this)
   ·rename_i hw
    simp[Region.wanted]at hw
  ·-- one of the tail: too early
   exfalso;cases hT:T.ops with
   |cons j s=>
    rcases hst i hit j (by rw[hT];simp)with hb|⟨hb,hb2⟩
    ·have:=a1n hc i o j ho hpd hb
     exact a2x this ((hun j (hin j (by rw[hT];simp))).2 (by rw[hT];simp))
    ·exact hsat ⟨j,hb,by rw[hT];simp,λd hd=>a1n hc i o d ho hpd (hb2 d hd)⟩
   |nil=>
    cases u with
    |nil=>rw[hT]at hN;simp at hN
    |cons q u=>have:=a1n hc i o q.1 ho hpd (htu i hit q (hum q (by simp)));exact a2x this ((hun q.1 (hin q.1 (by simp))).2 (by simp))
theorem b0Z{l:Lo}{eff:List Nat}{T:Tr}{u t lp:List Nat}(ok:b0r l.toArray eff T u t lp=true) :
 (∀i o,l.toArray[i]?=some o->∀p∈Q0 o,p<i)/\(T.ops++(u++t)).length=l.toArray.size/\(∀i,i<l.toArray.size->i∈T.ops++(u++t))/\(∀i∈T.ops++(u++t),i<l.toArray.size) /\
 (T.ops++(u++t)).Pairwise (λi j=>i≠j)/\(T.wf=true/\T.full (a5e l.toArray eff) (λj i=>((clo l.toArray.toList).getD i 0).testBit j)=true/\T.sub (a5e l.toArray eff) (λj i=>((clo l.toArray.toList).getD i 0).testBit j)=true)/\(∀j∈t,∀i∈u,((clo l.toArray.toList).getD j 0).testBit i=true)/\(∀j∈t,∀i∈T.ops,((clo l.toArray.toList).getD j 0).testBit i=true\/(i∈lp/\∀d∈b3D l.toArray i,((clo l.toArray.toList).getD j 0).testBit d=true)) /\
 (∀p∈lp,eff.contains p=false/\b2A l.toArray p=true)/\Region.noSelect l.toArray=true/\t.Pairwise (λi j=>((clo l.toArray.toList).getD j 0).testBit i=true):=by
 simp only[b0r,qa]at ok;obtain⟨⟨⟨⟨⟨⟨⟨⟨⟨o1,o2⟩,o3⟩,o4⟩,o5⟩,o6⟩,o8⟩,o9⟩,o10⟩,o7⟩:=ok;have hlt:∀i o,l.toArray[i]?=some o->∀p∈Q0 o,p<i:=by intro i o ho p hp;simp only[zc]at o5;have:=o5 (o,i) (by simpa [List.mem_zipIdx_iff_getElem?]using ho);simp only[qw]at this;exact this p hp
 have hlen:(T.ops++(u++t)).length=l.toArray.size:=by simpa using o2
 have hcov:∀i,i<l.toArray.size->i∈T.ops++(u++t):=by intro i hi;simp only[zc,List.mem_range]at o3;simpa using o3 i hi
 have hnd:(T.ops++(u++t)).Pairwise (λi j=>i≠j):=(a4s o4).imp λh=>by simpa using h
 refine⟨hlt,hlen,hcov,?_,hnd,⟨o1.1.1,o1.1.2,o1.2⟩,λj hj i hi=>by simp only[zc]at o6;exact o6 j hj i hi,
  λj hj i hi=>by
   simp only[zc,qv,qa]at o8;rcases o8 j hj i hi with h|⟨h1,h2⟩
   ·exact .inl h
   ·exact .inr ⟨by simpa using h1,h2⟩,
  λp hp=>by
   simp only[zc,qa,qK]at o9;exact o9 p hp,o10,(a4s o7).imp λh=>h⟩
 intro i hi;rcases ze i l.toArray.size with h|h
 ·exact h
 ·exfalso
  have hsub:(List.range l.toArray.size++[i]).Nodup:=by rw[List.nodup_append];refine⟨List.nodup_range,by simp,λa ha b hb=>?_⟩;have ha:=List.mem_range.1 ha;have hb:=qy.1 hb;omega
  have:=(List.Nodup.length_le_of_subset hsub (l₂:=T.ops++(u++t)) (λx hx=>by
   rcases qY.1 hx with h'|h'
   ·exact hcov x (List.mem_range.1 h')
   ·rw[qy.1 h'];exact hi))
  rw[hlen]at this;simp at this;omega
def a4f(ops:Array Oper)(eff:List Nat)(s:Tr)(fs:List (Nat×Nat))(t lp:List Nat):Bool:=
 ops.toList.all a0Z&&b0r ops eff s (fs.map (·.1)) t lp&&(s.ops.all λi=>match ops[i]? with
  |some o=>match o.dst with
   |some d=>fs.all λq=>d !=q.2
   |none=>true
  |none=>true)&&a5O (λi j=>i !=j) (fs.map (·.2))
theorem b07{id:Nat}{ops:Array Oper}{r:Option Nat}{a:Act}{w:World}(hm:P.follows .mixedOrders=true)(hp:∀(i:Nat)(o:Oper),ops[i]?=some o->a0Z o=true)
 (h:wpAny P .any ops (a0K Q) ops.size (Array.replicate ops.size false) a w.drew):(Code.region id ops true).wpIn (fen r) 0 P (a0K Q) a w:=
 wpIn_region_draw λt=>by
  simp only[Region.schedule,hm,zl,if_true];exact a5W hp _ _ _ (wpAny_sound ops.size t _ a _ h)
theorem a7J{id:Nat}{l:Lo}{F:Fm}{m:View}(eff:List Nat)(s:Tr)(t lp:List Nat)(hQ:lp≠[]->∀c a w d v,Q (.panic c) (a.put (some d) v) w->Q (.panic c) a w)(hX:eff.contains 4096=true->∀c a w,Q (.panic c) a w->False)(fs:List (Nat×Fl))(hs hp:Lr)(hm:P.follows .mixedOrders=true)
 (ok:a4f l.toArray eff s (fs.map λq=>(q.1,q.2.1)) t lp=true) (hops:∀q∈fs,FlAt P l.toArray n q) (hl:∀q∈fs,look F q.2.1=none)
 (k:SRr P l.toArray Q n eff ⟨t,fs.map (·.2)⟩ hs s F hp m):WC P (.region id l.toArray true) Q n F (hp++hs) m:=.mk λa w ha st=>by
 simp only[a4f,qa]at ok;obtain⟨⟨⟨ok0,okA⟩,okB⟩,okC⟩:=ok;have ok:=And.intro (And.intro okA okB) okC;have e0:(fs.map λq=>(q.1,q.2.1)).map (·.1)=fs.map (·.1):=by rw[List.map_map];rfl
 have e1:(fs.map λq=>(q.1,q.2.1)).map (·.2)=fs.map (·.2.1):=by rw[List.map_map];rfl
 rw[e0,e1]at ok;obtain⟨hlt,hlen,hcov,hin,hnd,⟨hwf,hfull,hsub⟩,hst,hst2,hlp,hsel,htc⟩:=b0Z ok.1.1;refine b07 hm (λi o hi=>by
  simp only[zc]at ok0;exact ok0 o (by simpa using Array.mem_of_getElem? hi)) ?_
 have:=c3w (P:=P) (ops:=l.toArray) (eff:=eff) (hs:=hs) (n:=n) (Q:=Q) (t:=⟨t,fs.map (·.2)⟩) lp hQ hX hlp hsel hlt htc fs hops
  (by
   have:=a4s ok.2;rw[List.pairwise_map]at this;exact this.imp λh=>by simpa using h) rfl s.ops
  (λi o hi ho q hq e=>by
   have h1:=ok.1.2;simp only[zc]at h1;have h2:=h1 i hi;rw[ho]at h2;simp only[e,zc,jb]at h2;have:=h2 (q.1,q.2.1) ⟨q,hq,rfl⟩;simp at this) (λj hj q hq=>hst j hj q.1 (jb.2 ⟨q,hq,rfl⟩))
  (s.ops.length+fs.length) fs [] s (Array.replicate l.toArray.size false) a w.drew F hp m rfl (List.Perm.refl _) (λ_ h=>h) hl (λ_ h=>by cases h) (by simp)
  (λj o ho hj hsz=>by simp at hj hsz;simp[hsz]at hj) (λi hi=>⟨λ_=>hcov i hi,λ_=>by simp at hi;simp[hi]⟩) hin hnd hwf hfull hsub
  (λj hj i hi=>hst2 j hj i hi) ha st.drew k
 have e:(s.ops++(fs.map (·.1)++t)).length=l.toArray.size:=hlen;simp only[e]at this;exact this
structure SR(P:Program)(ops:Array Oper)(Q:Exit->Pw)(n:Cx)(eff:List Nat)(t:Tl)(hs:Lr)(s:Tr)(F:Fm)(hp:Lr)(m:View):Prop where
 e:SRr P ops Q n eff t hs s F hp m
theorem c3r{eff:List Nat}{b:Bool}{X:Prop}(ok:(!eff.contains 4096&&b)=true)(h:eff.contains 4096=true):X:=by simp only[qa,qK]at ok;rw[ok.1]at h;cases h
theorem b86{c b:Bool}(ok:(c&&b)=true):b=true:=(Bool.and_eq_true_iff.1 ok).2
theorem F4{id:Nat}{l:Lo}{F:Fm}{m:View}(eff:List Nat)(s:Tr)(t:List Nat)(hs hp:Lr)(hm:P.follows .mixedOrders=true)(hQ:∀c a w d v,Q (.panic c) (a.put (some d) v) w->Q (.panic c) a w)(lp:List Nat)(ok:(!eff.contains 4096&&a4f l.toArray eff s [] t lp)=true)
 (k:SR P l.toArray Q n eff ⟨t,[]⟩ hs s F hp m):WC P (.region id l.toArray true) Q n F (hp++hs) m:=a7J eff s t lp (λ_=>hQ) (c3r ok) [] hs hp hm (b86 ok) (λ_ h=>by cases h) (λ_ h=>by cases h) k.e
theorem c1m{id:Nat}{l:Lo}{F:Fm}{m:View}(eff:List Nat)(s:Tr)(t:List Nat)(hs hp:Lr)(hm:P.follows .mixedOrders=true)(ok:(!eff.contains 4096&&a4f l.toArray eff s [] t [])=true)
 (k:SR P l.toArray Q n eff ⟨t,[]⟩ hs s F hp m):WC P (.region id l.toArray true) Q n F (hp++hs) m:=a7J eff s t [] (λh=>absurd rfl h) (c3r ok) [] hs hp hm (b86 ok) (λ_ h=>by cases h) (λ_ h=>by cases h) k.e
theorem a0X{id:Nat}{l:Lo}{F:Fm}{m:View}(eff:List Nat)(s:Tr)(t:List Nat)(hs hp:Lr)(hm:P.follows .mixedOrders=true)(hX:∀c a w,Q (.panic c) a w->False)(lp:List Nat)(ok:a4f l.toArray eff s [] t lp=true)
 (k:SR P l.toArray Q n eff ⟨t,[]⟩ hs s F hp m):WC P (.region id l.toArray true) Q n F (hp++hs) m:=a7J eff s t lp (λ_ c a w _ _ h=>(hX c _ w h).elim) (λ_=>hX) [] hs hp hm ok (λ_ h=>by cases h) (λ_ h=>by cases h) k.e
inductive Fls(P:Program)(ops:Array Oper)(n:Cx)(F:Fm):List (Nat×Nat)->List (Nat×Fl)->Prop
 |nil:Fls P ops n F [] []
 |cons {i d:Nat} {x:TypeId} {z:Value} {zs:Lv} {ty:TypeId} {pos:String} {after:Array Edge} {r:List (Nat×Nat)} {fs:List (Nat×Fl)} (ho:ops[i]?=some ⟨some d,.alloc x,ty,pos,after,none⟩) (hz:(P.info? x).bind (·.zero)=some z) (hzs:W4 z=some zs)
  (hd:d<n.num) (hl:look F d=none) (k:Fls P ops n F r fs):Fls P ops n F ((i,d)::r) ((i,d,zs,x)::fs)
theorem Fls.spec{F:Fm}{r:List (Nat×Nat)}{fs:List (Nat×Fl)}(h:Fls P ops n F r fs):r=(fs.map λq=>(q.1,q.2.1))/\(∀q∈fs,FlAt P ops n q)/\∀q∈fs,look F q.2.1=none:=by
 induction h with
 |nil=>exact⟨rfl,λ_ h=>(by cases h),λ_ h=>(by cases h)⟩
 |cons ho hz hzs hd hl _ ih=>
  obtain⟨h1,h2,h3⟩:=ih;refine⟨by simp[h1],λq hq=>?_,λq hq=>?_⟩
  ·rcases qQ.1 hq with rfl|hq
   ·exact⟨_,_,_,_,ho,hz,hzs,hd⟩
   ·exact h2 q hq
  ·rcases qQ.1 hq with rfl|hq
   ·exact hl
   ·exact h3 q hq
variable {F:Fm}{hp:Lr}{m:View}{i:Nat}{s:Tr}{op:Op}{ty:TypeId}{pos:String}{after:Array Edge}{d:Nat}{v:Value}
def b7d:Lr->Lr->Option (Lr)
 | [],r=>some r
 |x::l,r=>match b7d l r with
  |some t=>some (x::t)
  |none=>none
theorem b7S:∀{l r t:Lr},b7d l r=some t->l++r=t
 | [],r,t,h=>by simp only[b7d,qs]at h;exact h
 |x::l,r,t,h=>by
  simp only[b7d]at h;cases h1:b7d l r with
  |none=>simp[h1]at h
  |some q=>simp only[h1,qs]at h;subst h;simp[b7S h1]
theorem SR.alt{s s':Tr}(h1:SR P ops Q n eff t hs s F hp m)(h2:SR P ops Q n eff t hs s' F hp m):SR P ops Q n eff t hs (.alt s s') F hp m:=⟨h1.e,h2.e⟩
theorem SR.nil{tt:List Nat}{tl:Lo}{H:Lr}(htl:tt.filterMap (ops[·]?)=tl)(hH:b7d hp hs=some H)(k:WL P ops Q n tl F H m):SR P ops Q n eff ⟨tt,[]⟩ hs .nil F hp m:=⟨by have hH:=b7S hH;subst htl hH;exact k⟩
theorem b7K(ho:ops[i]?=some ⟨some d,op,ty,pos,after,none⟩)(he:eff.contains i=false)(p:PO P ⟨some d,op,ty,pos,after,none⟩ n F hs m v)(hd:d<n.num)(k:SR P ops Q n eff t hs s ((d,v)::F) hp m) :
 SR P ops Q n eff t hs (.op i s) F hp m:=⟨_,ho,λx hx=>by cases hx;exact hd,by
 rw[he];exact⟨v,⟨λa w ha st=>⟨λ_=>p a w ha st,λh=>by simp[Region.wanted]at h⟩⟩,k.e⟩⟩
theorem SR.call{f:Operand}{args:List Operand}{tys:Array TypeId}{vs first cap:Lv}{q:FuncId}{R:Lr->Value->View->Lr->Prop}(ho:ops[i]?=some ⟨some d,.call ⟨.value f,args.toArray,tys⟩,ty,pos,after,none⟩)
 (he:eff.contains i=true) (ef:Ev n F f (.func (.func q) first.toArray cap.toArray)) (ea:Evs n F args vs) (c:∀fr,CT P q (first++vs++cap) (fr++(hp++hs)) m (R fr)) (hd:d<n.num)
 (k:∀fr v m' h',m.le m'->R fr v m' h'->∃hp',h'.Perm (fr++(hp'++hs))/\SR P ops Q n eff t hs s ((d,v)::F) hp' m'):SR P ops Q n eff t hs (.op i s) F hp m:=⟨_,ho,λx hx=>by cases hx;exact hd,by
 rw[he];refine⟨λfr a w ha st=>⟨λ_=>?_,λh=>by simp[Region.wanted]at h⟩⟩;rw[Y8 ha ef ea (c fr).enter];refine Calls.mono ((c fr).calls w st) ?_;rintro e w' ⟨v,m',h',rfl,hle,hst,hR⟩;obtain⟨hp',hpm,hk⟩:=k fr v m' h' hle hR;exact .inl ⟨v,rfl,m',hp',hle,hst.perm hpm,nofun,hk.e⟩⟩
theorem SR.alloc{x:TypeId}{z:Value}{zs:Lv}(ho:ops[i]?=some ⟨some d,.alloc x,ty,pos,after,none⟩)(he:eff.contains i=true)(hz:(P.info? x).bind (·.zero)=some z)(hzs:W4 z=some zs)(hd:d<n.num)
 (k:∀b,SR P ops Q n eff t hs s ((d,.pointer (some ⟨b,0,none⟩))::F) (.pt b (.cells zs.toArray x (0,0))::hp) m):SR P ops Q n eff t hs (.op i s) F hp m:=⟨_,ho,λy hy=>by cases hy;exact hd,by
 rw[he];refine⟨λfr a w ha st=>⟨λ_=>?_,λh=>by simp[Region.wanted]at h⟩⟩;have hzs:=P4 hzs;subst hzs;have hrun:(execOp a.eval ⟨some d,.alloc x,ty,pos,after,none⟩).run P w=.ok (.value (.pointer (some ⟨w.heap.size,0,none⟩))) (w.alloc (.cells z.cells.toList.toArray x)):=by
  cases hi:P.info? x with
  |none=>simp[hi]at hz
  |some i=>
   have e1:i.zero=some z:=by simpa [hi]using hz
   simp[execOp,Instr.alloc,zeroValue,typeInfo,hi,e1,newVar,newRow]
 rw[hrun];exact⟨m,.pt w.heap.size (.cells z.cells.toList.toArray x)::hp,View.le.refl m,(st.alloc _).perm (qL.symm),λ_=>qo _ _,(k _).e⟩⟩
end
end
end Go.Eng
section
namespace Go.Eng
open Go Go.RowKit
inductive Del:Lr->Res->Lr->Prop
 |here {r:Res} {t:Lr}:Del (r::t) r t
 |next {r x:Res} {t t':Lr} (h:Del t r t'):Del (x::t) r (x::t')
theorem Del.perm{h h':Lr}{r:Res}(d:Del h r h'):h.Perm (r::h'):=by
 induction d with
 |here=>exact List.Perm.refl _
 |next _ ih=>exact(List.Perm.cons _ ih).trans (qF _ _ _)
theorem St.conv{m:View}{h h':Lr}{w:World}{r r':Res}(s:St m h w)(u:Upd h r r' h')(hfp:r'.fp=r.fp)(hok:r.ok w->r'.ok w):St m h' w:=
 s.upd u rfl rfl rfl (λ_ _ _=>rfl) (hok (s.ok _ u.mem)) (λ_ hb=>.inl (hfp▸hb))
theorem a4B{w:World}{b:Nat}{cs:Array Value}{e:TypeId}{sz n cap:Nat}(h:w.heap[b]?=some (.cells cs e (0,0)))(h1:n<=cap)(h2:cap<=maxLen)(h3:cs.size=cap*sz) :
 w.ownsRow 0 e sz (.slice (some ⟨b,0,none⟩) n cap) n (cs.toList.take (n*sz)):=by
 refine⟨?_,.inr ⟨b,cap,cs,rfl,qi _,h,h1,h2,h3,rfl⟩⟩;have:n*sz<=cs.size:=by rw[h3];exact zw _ h1
 simp;omega
theorem c2V{w:World}{a:Oa}{e:TypeId}{sz n cap:Nat}{xs:Lv}(h:w.ownsRow 0 e sz (.slice a n cap) n xs){j:Nat}{v:Value}(hj:xs[j]?=some v) :
 ∃b,a=some ⟨b,0,none⟩/\w.cell? ⟨b,j,none⟩=some v:=by
 obtain⟨hl,hn|⟨g,c,cur,hv,_,hh,_,_,hsz,ht⟩⟩:=h
 ·obtain⟨_,rfl⟩:=hn
  have:xs=[]:=qB (by simpa using hl);subst this;simp at hj
 ·simp only[Value.slice.injEq]at hv
  obtain⟨rfl,_,rfl⟩:=hv;refine⟨g,rfl,?_⟩;rw[<-ht,ja]at hj;split at hj
  ·simp[World.cell?,hh];simpa using hj
  ·simp at hj
theorem b05{w:World}{a:Oa}{e:TypeId}{sz n cap:Nat}{xs:Lv}(h:w.ownsRow 0 e sz (.slice a n cap) n xs):n<=cap/\cap<=9223372036854775807/\xs.length=n*sz:=by
 obtain⟨hl,hn|⟨g,c,cur,hv,_,hh,hnc,hcm,hsz,ht⟩⟩:=h
 ·obtain⟨hv,rfl⟩:=hn
  simp only[Value.slice.injEq]at hv;obtain⟨_,_,rfl⟩:=hv;exact⟨by omega,by omega,hl⟩
 ·simp only[Value.slice.injEq]at hv
  obtain⟨_,_,rfl⟩:=hv;refine⟨hnc,?_,hl⟩;unfold maxLen at hcm;omega
section
variable {P:Program}{ops:Array Oper}{Q:Exit->Pw}{n:Cx}{F:Fm}{h h':Lr}{m:View}{rest:Lo}
variable {ty:TypeId}{pos:String}{after:Array Edge}{dst:Option Tmp}{g:Option (Nat×Bool)}{d:Nat}
theorem WL.conv{l:Lo}{r r':Res}(u:Upd h r r' h')(hfp:r'.fp=r.fp)(hok:∀w,r.ok w->r'.ok w)(k:WL P ops Q n l F h' m):WL P ops Q n l F h m:=
 .mk λc w hc hs=>k c w hc (hs.conv u hfp (hok w))
theorem WL.drop{l:Lo}(hs:h'.Sublist h)(k:WL P ops Q n l F h' m):WL P ops Q n l F h m:=.mk λc w hc st=>k c w hc (st.sub hs)
theorem WC.drop{c:Code}(hs:h'.Sublist h)(k:WC P c Q n F h' m):WC P c Q n F h m:=.mk λc w hc st=>k c w hc (st.sub hs)
theorem WL.perm{l:Lo}(hs:h.Perm h')(k:WL P ops Q n l F h' m):WL P ops Q n l F h m:=.mk λc w hc st=>k c w hc (st.perm hs)
theorem c5F{l:Lo}{A:Prop}(ha:∀w,St m h w->A)(k:A->WL P ops Q n l F h m):WL P ops Q n l F h m:=.mk λc w hc st=>k (ha w st) c w hc st
theorem b7p{c:Code}{A:Prop}(ha:∀w,St m h w->A)(k:A->WC P c Q n F h m):WC P c Q n F h m:=.mk λc w hc st=>k (ha w st) c w hc st
theorem St.addNil(e:TypeId)(sz:Nat){w:World}(s:St m h w):St m (.row (.slice none 0 0) e sz 0 []::h) w:=
 ⟨s.os,s.out,s.tape,s.blk,λr hr=>by
  cases hr with
  |head=>exact World.ownsRow_nil w 0 e sz
  |tail _ hr=>exact s.ok r hr,qR.2 ⟨λr _ b hb=>by simp[Res.fp,Value.ownBlock]at hb,s.nd⟩,λr hr b hb=>by
  cases hr with
  |head=>simp[Res.fp,Value.ownBlock]at hb
  |tail _ hr=>exact s.fr r hr b hb⟩
theorem WC.addNil(e:TypeId)(sz:Nat){c:Code}(k:WC P c Q n F (.row (.slice none 0 0) e sz 0 []::h) m):WC P c Q n F h m:=.mk λa w ha st=>k a w ha (st.addNil e sz)
theorem WL.addNil(e:TypeId)(sz:Nat){l:Lo}(k:WL P ops Q n l F (.row (.slice none 0 0) e sz 0 []::h) m):WL P ops Q n l F h m:=.mk λa w ha st=>k a w ha (st.addNil e sz)
theorem b9f{x y:Operand}{t t' e:TypeId}{a:Oa}{l c:Nat}(ht:P.underlying t=some (.slice e))(ex:Ev n F x (.slice a l c))(ey:Ev n F y (.slice none 0 0)) :
 PO P ⟨dst,.binOp .eql t x y t',ty,pos,after,g⟩ n F h m (.bool a.isNone):=.mk λb w ha _=>by
 have e1:eqGuard .eql t x y (.slice a l c) (.slice none 0 0)=pure ():=rfl;have hr:(binOp .eql t (.slice a l c) (.slice none 0 0)).run P w=.ok (.bool a.isNone) w:=by
  have h1:∀d,(Op.equalIn (d+1) t (.slice a l c) (.slice none 0 0)).run P w=.ok a.isNone w:=λd=>by
   cases a<;>simp[Op.equalIn,run_underlying ht]
  have h2:(Op.equal t (.slice a l c) (.slice none 0 0)).run P w=.ok a.isNone w:=h1 9999;have h3:binOp .eql t (.slice a l c) (.slice none 0 0)=(do pure (.bool (<- Op.equal t (.slice a l c) (.slice none 0 0)))):=rfl;rw[h3];simp[h2]
 simp[execOp,ex b ha,ey b ha,e1,hr]
structure EL(P:Program)(t e:TypeId)(sz by_:Nat):Prop where
 ex:∃i z,P.underlying t=some (.slice e)/\P.info? e=some i/\i.zero=some z/\i.size=sz/\i.bytes=by_/\z.cells.size=sz/\0<sz
theorem EL.und{t e:TypeId}{sz by_:Nat}(E:EL P t e sz by_):P.underlying t=some (.slice e):=by obtain⟨i,z,h,_⟩:=E.ex;exact h
theorem EL.size{t e:TypeId}{sz by_:Nat}(E:EL P t e sz by_):(P.info? e).map (·.size)=some sz:=by obtain⟨i,z,_,h,_,hs,_⟩:=E.ex;simp[h,hs]
theorem EL.posz{t e:TypeId}{sz by_:Nat}(E:EL P t e sz by_):0<sz:=by obtain⟨i,z,_,_,_,_,_,_,h⟩:=E.ex;exact h
theorem Rd.ofRow{a:Oa}{k cap sz:Nat}{e:TypeId}{ys:Lv}(hl:ys.length=k*sz)(hle:k<=cap)(hmx:cap<=9223372036854775807)(hm:Res.row (.slice a k cap) e sz k ys∈h):Rd m h a k cap sz ys:=
 ⟨hl,hle,hmx,λw st j u hj=>by obtain⟨b,e,hc⟩:=c2V (st.ok _ hm) hj;exact⟨b,0,e,by simpa using hc⟩⟩
theorem Rd.ofPt{b k sz:Nat}{cs:Lv}{e:TypeId}{fz:Nat×Nat}(hl:cs.length=k*sz)(hmx:k<=9223372036854775807)(hm:Res.pt b (.cells cs.toArray e fz)∈h):Rd m h (some ⟨b,0,none⟩) k k sz cs:=
 ⟨hl,qz _,hmx,λw st j u hj=>⟨b,0,rfl,by rw[st.pt_cell hm];simpa using hj⟩⟩
theorem a4E{l:Lo}{a:Oa}{k cap sz:Nat}{e:TypeId}{ys:Lv}(hm:Res.row (.slice a k cap) e sz k ys∈h)(kk:k<=cap->cap<=9223372036854775807->ys.length=k*sz->WL P ops Q n l F h m):WL P ops Q n l F h m:=
 c5F (λ_ st=>b05 (st.ok _ hm)) λ⟨h1,h2,h3⟩=>kk h1 h2 h3
theorem H4{c:Code}{a:Oa}{k cap sz:Nat}{e:TypeId}{ys:Lv}(hm:Res.row (.slice a k cap) e sz k ys∈h)(kk:k<=cap->cap<=9223372036854775807->ys.length=k*sz->WC P c Q n F h m):WC P c Q n F h m:=
 b7p (λ_ st=>b05 (st.ok _ hm)) λ⟨h1,h2,h3⟩=>kk h1 h2 h3
theorem b7V(w:World){t e ty:TypeId}{sz by_:Nat}(E:EL P t e sz by_){a b:Oa}{l cap k c:Nat}{xs ys:Lv}(hown:w.ownsRow 0 e sz (.slice a l cap) l xs)
 (hl:ys.length=k*sz) (hys:∀j u,ys[j]?=some u->∃b0 off,b=some ⟨b0,off,none⟩/\w.cell? ⟨b0,off+j,none⟩=some u) (h1:∀u∈ys,u.oneCell'=true)
 (h63:l+k<=9223372036854775807) (hbytes:(l+k)*by_<=140737488355328) :
 ∃a' cap' w',(Builtin.append_ #[t,t] ty #[.slice a l cap,.slice b k c]).run P w=.ok (.slice a' (l+k) cap') w'/\w'.ownsRow 0 e sz (.slice a' (l+k) cap') (l+k) (xs++ys)/\w.grownBy w' (Value.slice a l cap).ownBlock /\
  ∀x,(Value.slice a' (l+k) cap').ownBlock=some x->(Value.slice a l cap).ownBlock=some x\/w.heap.size<=x:=by
 obtain⟨i,z,ht,hi,hz,hsize,hby,hzs,hsz⟩:=E.ex;subst hsize hby
 have hm63:l+k<=maxLen:=by unfold maxLen;omega
 have hlen:(xs++ys).length=(l+k)*i.size:=by rw[qh,hown.1,hl,zv]
 cases b with
 |none=>
  have hy0:ys=[]:=by
   cases ys with
   |nil=>rfl
   |cons y ys=>obtain⟨b0,off,e0,_⟩:=hys 0 y rfl;cases e0
  subst hy0;have hk0:k=0:=by
   rcases Nat.mul_eq_zero.1 hl.symm with h|h
   ·exact h
   ·omega
  subst hk0;have hle:=(b05 hown).1;refine⟨a,cap,w,?_,by simpa using hown,⟨rfl,rfl,rfl,qz _,λ_ _ _=>rfl⟩,λx hx=>.inl hx⟩;cases a<;>simp[Builtin.append_,run_underlying ht,sizeOf,typeInfo,hi,Builtin.lenOf,Builtin.firstCells,hle,storeCells]
 |some ad=>
  have hnews:∀j u,ys[j]?=some u->w.cell? (ad.add j)=some u:=by intro j u hj;obtain⟨b0,off,e0,hc⟩:=hys j u hj;cases e0;rw[Addr.add_lit];exact hc
  have grown:∀(old:Nat),
   (w.drew.alloc (.cells (xs.toArray++ys.toArray++Builtin.zeroCells z.cells (grownCap w (l+k) old e-(l+k))) e)).ownsRow 0 e i.size
    (.slice (some ⟨w.heap.size,0,none⟩) (l+k) (grownCap w (l+k) old e)) (l+k) (xs++ys) /\
   ∀row,w.grownBy (w.drew.alloc (.cells (xs.toArray++ys.toArray++Builtin.zeroCells z.cells (grownCap w (l+k) old e-(l+k))) e)) row:=by
   intro old;have hge:=grownCap_ge w (l+k) old e;have hcm:grownCap w (l+k) old e<=maxLen:=grownCap_le_maxLen w (l+k) old e hm63;refine⟨⟨hlen,.inr ⟨w.heap.size,_,_,rfl,qi _,a5Y w.drew _,hge,hcm,?_,?_⟩⟩,λrow=>⟨rfl,rfl,rfl,by simp,λk hk _=>a7G w.drew _ k hk⟩⟩
   ·simp only[Array.size_append,List.size_toArray,size_zeroCells,hzs,hown.1,hl,<-zv]
    congr 1
    omega
   ·simp only[Array.toList_append,qj]
    rw[<-qj,<-hlen];exact List.take_left
  rcases hown.2 with⟨hv,hl0⟩|⟨g,cap0,cur,hv,_,hg,hnc,hcm,hcs,htake⟩
  ·simp only[Value.slice.injEq]at hv
   obtain⟨rfl,rfl,rfl⟩:=hv;have hx:xs=[]:=qB (by simpa using hown.1);subst hx;by_cases hk0:k=0
   ·subst hk0
    have hn:ys=[]:=qB (by simpa using hl);subst hn;refine⟨none,0,w,?_,World.ownsRow_nil w 0 e i.size,⟨rfl,rfl,rfl,qz _,λ_ _ _=>rfl⟩,λx hx=>.inl hx⟩;simp[Builtin.append_,run_underlying ht,sizeOf,typeInfo,hi,Builtin.lenOf,Builtin.firstCells,loadCells,loadCellsFrom]
   ·have hr:=run_append_nil (P:=P) w t ty e i z ht hi hz ad k c ys hl hnews (by omega) (by omega) (by have hb:=hbytes;simp only[qI]at hb;omega)
    have hgr:=grown 0;simp only[qI,zO,Array.empty_append]at hgr⊢;exact⟨_,_,_,hr,hgr.1,hgr.2 _,λx hx=>by simp only[Value.ownBlock,qs]at hx;right;omega⟩
  ·simp only[Value.slice.injEq]at hv
   obtain⟨rfl,_,rfl⟩:=hv;by_cases hroom:l+k<=cap
   ·have hfit:l*i.size+ys.length<=cur.size:=by rw[hl,hcs,<-zv];exact zw _ hroom
    have hr:=run_append_room (P:=P) w t ty e i ht hi g l cap cur hg ad k c ys hl hnews h1 hroom hfit;refine⟨_,_,_,hr,⟨hlen,.inr ⟨g,cap,_,rfl,qi _,setRow_heap w g cur _ e _ hg,hroom,hcm,?_,?_⟩⟩,⟨rfl,rfl,rfl,by simp,λk _ hk=>setRow_other w g k _ (λe=>hk (by simp[Value.ownBlock,e]))⟩,λx hx=>.inl hx⟩
    ·simp only[List.size_toArray,qh,qV,qx,Array.length_toList]
     omega
    ·rw[htake,<-hlen]
     exact List.take_left
   ·have holds:∀j u,xs[j]?=some u->w.cell? ((⟨g,0,none⟩:Addr).add j)=some u:=hown.cells (g:=g) rfl
    have hr:=run_append_grow (P:=P) w t ty e i z ht hi hz ⟨g,0,none⟩ l cap xs hown.1 holds ad k c ys hl hnews (by omega) (by omega) (growslice_fits (by omega) hbytes);have hgr:=grown cap;exact⟨_,_,_,hr,hgr.1,hgr.2 _,λx hx=>by simp only[Value.ownBlock,qs]at hx;right;omega⟩
theorem WL.append{x y:Operand}{t e:TypeId}{sz by_ l cap k c:Nat}{a b:Oa}{xs ys:Lv}{hq:Value->Lr}(E:EL P t e sz by_)(ex:Ev n F x (.slice a l cap))(ey:Ev n F y (.slice b k c))
 (rd:Rd m h b k c sz ys) (h1:∀u∈ys,u.oneCell'=true) (h63:l+k<=9223372036854775807) (hbytes:(l+k)*by_<=140737488355328)
 (u:∀v',Upd h (.row (.slice a l cap) e sz l xs) (.row v' e sz (l+k) (xs++ys)) (hq v')) (hd:d<n.num) (kk:∀a' cap',WL P ops Q n rest ((d,.slice a' (l+k) cap')::F) (hq (.slice a' (l+k) cap')) m) :
 WL P ops Q n (⟨some d,.call ⟨.builtin .append,#[x,y],#[t,t]⟩,ty,pos,after,none⟩::rest) F h m:=.mk λf w hf hs=>by
 have hown:w.ownsRow 0 e sz (.slice a l cap) l xs:=hs.ok _ (u undef).mem;obtain⟨a',cap',w',hr,hown',hg,hfp⟩:=b7V (P:=P) w (ty:=ty) (c:=c) E hown rd.len (rd.at_ w hs) h1 h63 hbytes;refine G7 rfl (O5 (v:=.slice a' (l+k) cap') (w':=w') ?_ (kk a' cap' _ _ (hf.put hd _) ?_))
 ·simp[execOp,resolve,invoke,builtin,ex f hf,ey f hf,hr]
 ·exact hs.upd (u _) hg.os hg.output hg.tape (λq hq hne=>hg.block q hq (λe=>hne e.symm)) hown' hfp
theorem SR.append{eff:List Nat}{t':Tl}{hs hp:Lr}{i:Nat}{s:Tr}{x y:Operand}{t e:TypeId}{sz by_ l cap k c:Nat}{a b:Oa}{xs ys:Lv}{hq:Value->Lr}
 (ho:ops[i]?=some ⟨some d,.call ⟨.builtin .append,#[x,y],#[t,t]⟩,ty,pos,after,none⟩) (he:eff.contains i=true) (E:EL P t e sz by_) (ex:Ev n F x (.slice a l cap)) (ey:Ev n F y (.slice b k c))
 (rd:Rd m (hp++hs) b k c sz ys) (h1:∀u∈ys,u.oneCell'=true) (h63:l+k<=9223372036854775807) (hbytes:(l+k)*by_<=140737488355328)
 (u:∀v',Upd hp (.row (.slice a l cap) e sz l xs) (.row v' e sz (l+k) (xs++ys)) (hq v')) (hd:d<n.num) (kk:∀a' cap',SR P ops Q n eff t' hs s ((d,.slice a' (l+k) cap')::F) (hq (.slice a' (l+k) cap')) m) :
 SR P ops Q n eff t' hs (.op i s) F hp m:=⟨_,ho,λy hy=>by cases hy;exact hd,by
 rw[he];refine⟨λfr f w hf st=>⟨λ_=>?_,λh=>by simp[Region.wanted]at h⟩⟩;have hmem:Res.row (.slice a l cap) e sz l xs∈hp++hs:=qY.2 (.inl (u undef).mem);have hown:w.ownsRow 0 e sz (.slice a l cap) l xs:=st.ok _ (qY.2 (.inr hmem));obtain⟨a',cap',w',hr,hown',hg,hfp⟩:=b7V (P:=P) w (ty:=ty) (c:=c) E hown rd.len (rd.at_ w (st.sub (qc _ _))) h1 h63 hbytes;have hrun:(execOp f.eval ⟨some d,.call ⟨.builtin .append,#[x,y],#[t,t]⟩,ty,pos,after,none⟩).run P w=.ok (.value (.slice a' (l+k) cap')) w':=by simp[execOp,resolve,invoke,builtin,ex f hf,ey f hf,hr]
 rw[hrun];have lift:∀{p:Lr}{r r':Res}{p':Lr},Upd p r r' p'->Upd (p++hs) r r' (p'++hs):=λu=>by
  induction u with
  |here=>exact Upd.here
  |next _ ih=>exact Upd.next ih
 have liftL:∀{q p:Lr}{r r':Res}{p':Lr},Upd p r r' p'->Upd (q++p) r r' (q++p'):=λ{q} _ _ _ _ u=>by
  induction q with
  |nil=>exact u
  |cons x q ih=>exact Upd.next ih
 exact⟨m,_,View.le.refl m,st.upd (liftL (lift (u (.slice a' (l+k) cap')))) hg.os hg.output hg.tape (λq hq hne=>hg.block q hq (λe=>hne e.symm)) hown' hfp,nofun,(kk a' cap').e⟩⟩
def a4I(pl:Nat->Option (Nat×Nat)):Lv->List (Nat×Value)->Option (Lv)
 |cs,[]=>some cs
 |cs,(i,v)::r=>match pl i,W4 v with
  |some (off,sz),some (z0::zs)=>match Nat.beq (z0::zs).length sz,a1N cs off (z0::zs)with
   |true,some cs'=>a4I pl cs' r
   |_,_=>none
  |_,_=>none
theorem b2d(off:Nat):∀(vs:Lv)(k:Nat)(cs:Array Value),off+k+vs.length<=cs.size ->
 (vs.zipIdx k).foldl (λ(cs:Array Value)(p:Value×Nat)=>cs.setIfInBounds (off+p.2) p.1) cs=(cs.toList.take (off+k)++vs++cs.toList.drop (off+k+vs.length)).toArray
 | [],k,cs,h=>by simp
 |v::vs,k,cs,h=>by
  simp only[qJ]at h;simp only[List.zipIdx_cons,List.foldl_cons];rw[b2d off vs (k+1) _ (by simp;omega)];congr 1
  have e:=list_seg_step cs.toList (off+k) v vs (by simp;omega);simpa [Array.toList_setIfInBounds,jd]using e
theorem a1C{pl:Nat->Option (Nat×Nat)}:∀{ps:List (Nat×Value)}{cs r:Lv},a4I pl cs ps=some r->Instr.fill pl cs.toArray ps=some r.toArray
 | [],cs,r,h=>by simp only[a4I,qs]at h;subst h;rfl
 |(i,v)::ps,cs,r,h=>by
  simp only[a4I]at h;cases h1:pl i with
  |none=>simp[h1]at h
  |some q=>
   obtain⟨off,sz⟩:=q;cases h2:W4 v with
   |none=>simp[h1,h2]at h
   |some zs0=>
   cases zs0 with
   |nil=>simp[h1,h2]at h
   |cons z0 zs=>
    simp only[h1,h2]at h;cases h3:Nat.beq (z0::zs).length sz with
    |false=>rw[h3]at h;simp at h
    |true=>
     cases h4:a1N cs off (z0::zs)with
     |none=>rw[h3,h4]at h;simp at h
     |some cs'=>
      rw[h3,h4]at h;simp only at h;have hz:=P4 h2;have hl:(z0::zs).length=sz:=zb h3;have e4:=a9J h4;have hsz:v.cells.size=sz:=by rw[<-hl,<-hz];simp
      have hle:=a7L h4 (by simp);rw[Instr.fill,h1];simp only[];rw[if_neg (by simp[hsz];omega)];have e5:=b2d off (z0::zs) 0 cs.toArray (by simp at hle⊢;omega);have e6:v.cells.zipIdx.foldl (λcs (x:Value×Nat)=>cs.setIfInBounds (off+x.2) x.1) cs.toArray=cs'.toArray:=by rw[<-Array.foldl_toList,Array.toList_zipIdx,hz,e5,e4];simp
      rw[e6];exact a1C h
inductive EvP(n:Cx)(F:Fm):List (Nat×Operand)->List (Nat×Value)->Prop
 |nil:EvP n F [] []
 |cons {i:Nat} {x:Operand} {v:Value} {xs:List (Nat×Operand)} {vs:List (Nat×Value)} (h:Ev n F x v) (k:EvP n F xs vs):EvP n F ((i,x)::xs) ((i,v)::vs)
theorem EvP.map{xs:List (Nat×Operand)}{vs:List (Nat×Value)}(h:EvP n F xs vs){a:Act}(ha:Fr n F a):xs.map (λ(i,x)=>(i,a.eval x))=vs:=by
 induction h with
 |nil=>rfl
 |cons h _ ih=>simp[h a ha];exact ih
def a8h(z:Value)(k:Nat):Option (Lv):=match W4 z with
 |some zs=>some ((List.replicate k zs).flatten)
 |none=>none
theorem b63{z:Value}{k:Nat}{zs:Lv}(h:a8h z k=some zs):((Array.range (k*z.cells.size)).map (z.cells[· % z.cells.size]!))=zs.toArray:=by
 unfold a8h at h;cases hc:W4 z with
 |none=>simp[hc]at h
 |some cs=>
  simp only[hc,qs]at h;subst h;have e:=P4 hc;have es:z.cells.size=cs.length:=by rw[<-e];simp
  apply Array.ext
  ·simp[es]
  ·intro j h1 h2
   simp only[Array.size_map,Array.size_range]at h1;simp only[Array.getElem_map,Array.getElem_range,List.getElem_toArray];have hpos:0<cs.length:=by
    rcases Nat.eq_zero_or_pos cs.length with h|h
    ·rw[es,h]at h1;simp at h1
    ·exact h
   have hm:j%z.cells.size<cs.length:=by rw[es];exact Nat.mod_lt _ hpos
   have hm':j%z.cells.size<z.cells.size:=by rw[es]at hm⊢;exact hm
   have e1:z.cells[j%z.cells.size]! = cs[j%z.cells.size]:=by
    rw[getElem!_pos z.cells _ hm'];have:z.cells.toList[j%z.cells.size]'(by simpa using hm')=cs[j%z.cells.size]:=by simp[e]
    rw[<-this];simp
   rw[e1];have key:∀(k j:Nat)(h2:j<(List.replicate k cs).flatten.length),(List.replicate k cs).flatten[j]=cs[j%cs.length]'(Nat.mod_lt _ hpos):=by
    intro k;induction k with
    |zero=>intro j h2;simp at h2
    |succ k ih=>
     intro j h2;simp only[List.replicate_succ,List.flatten_cons];by_cases hj:j<cs.length
     ·rw[List.getElem_append_left hj]
      simp[Nat.mod_eq_of_lt hj]
     ·rw[List.getElem_append_right (by omega)]
      have h3:j-cs.length<(List.replicate k cs).flatten.length:=by simp only[List.replicate_succ,List.flatten_cons,qh]at h2;omega
      rw[ih _ h3];congr 1
      rw[<-Nat.mod_eq_sub_mod (by omega)]
   rw[key k j h2];simp[es]
theorem a08(w:World){t e k:Nat}{sz by_:Nat}{ps:List (Nat×Operand)}{vs:List (Nat×Value)}{z:Value}{zs cs:Lv}(E:EL P t e sz by_)(hz:(P.info? e).bind (·.zero)=some z)(ev:EvP n F ps vs)
 (hzs:a8h z k=some zs) (hf:a4I (λi=>some (i*sz,sz)) zs vs=some cs) (hk:k*sz<=16777216) (h0:Nat.beq (k*sz) 0=false) {f:Act} (hf':Fr n F f) :
 (execOp f.eval ⟨dst,.buildSlice t k ps.toArray,ty,pos,after,g⟩).run P w=.ok (.value (.slice (some ⟨w.heap.size,0,none⟩) k k)) (w.alloc (.cells cs.toArray e)):=by
 obtain⟨i,z',ht,hi,hz',hsize,hby,hzsz,hsz⟩:=E.ex;have e1:z'=z:=by have:=hz;rw[hi]at this;simp only[Option.bind_some]at this;rw[hz']at this;exact qM this
 subst e1;have h0':¬k*i.size=0:=by rw[hsize];intro hh;rw[hh]at h0;cases h0
 have hk':¬(16777216<k*i.size):=by rw[hsize];omega
 have hfill:=a1C hf;have hsum:=b63 hzs;have hrun:(Instr.buildSlice t k vs.toArray).run P w=.ok (.slice (some ⟨w.heap.size,0,none⟩) k k) (w.alloc (.cells cs.toArray e)):=by
  subst hsize;have hz2:((Array.range (k*i.size)).map (z'.cells[· % z'.cells.size]!))=zs.toArray:=by rw[<-hzsz];exact hsum
  simp only[Instr.buildSlice,Sem.run_bind,run_underlying ht,Result.andThen_ok,sizeOf,typeInfo,run_program,hi,Sem.run_pure];simp[hk',h0',zeroValue,typeInfo,hi,hz',hz2,hfill,newRow]
 simp only[execOp];have em':(ps.toArray.map λ(i,x)=>(i,f.eval x))=vs.toArray:=by rw[List.map_toArray];exact congrArg List.toArray (ev.map hf')
 rw[em'];simp[hrun]
theorem WL.buildSlice{t e k:Nat}{sz by_:Nat}{ps:List (Nat×Operand)}{vs:List (Nat×Value)}{z:Value}{zs cs:Lv}(E:EL P t e sz by_)(hz:(P.info? e).bind (·.zero)=some z)(ev:EvP n F ps vs)
 (hzs:a8h z k=some zs) (hf:a4I (λi=>some (i*sz,sz)) zs vs=some cs) (hk:k*sz<=16777216) (h0:Nat.beq (k*sz) 0=false) (hd:d<n.num)
 (kk:∀b,WL P ops Q n rest ((d,.slice (some ⟨b,0,none⟩) k k)::F) (.pt b (.cells cs.toArray e (0,0))::h) m) :
 WL P ops Q n (⟨some d,.buildSlice t k ps.toArray,ty,pos,after,none⟩::rest) F h m:=.mk λ_ w hf' hs=>
 G7 rfl (O5 (a08 w E hz ev hzs hf hk h0 hf') (kk w.heap.size _ _ (hf'.put hd _) (hs.alloc _)))
theorem a9n{t e:Nat}{sz by_:Nat}(E:EL P t e sz by_)(hd:d<n.num)
 (kk:∀b,WL P ops Q n rest ((d,.slice (some ⟨b,0,none⟩) 0 0)::F) (.row (.slice (some ⟨b,0,none⟩) 0 0) e sz 0 []::h) m) :
 WL P ops Q n (⟨some d,.buildSlice t 0 #[],ty,pos,after,none⟩::rest) F h m:=.mk λf w hf' hs=>by
 obtain⟨i,z',ht,hi,hz',hsize,hby,hzsz,hsz⟩:=E.ex;have hrun:(execOp f.eval ⟨some d,.buildSlice t 0 #[],ty,pos,after,none⟩).run P w=.ok (.value (.slice (some ⟨w.heap.size,0,none⟩) 0 0)) (w.alloc (.cells #[] e)):=by simp[execOp,Instr.buildSlice,run_underlying ht,sizeOf,typeInfo,hi,Instr.fill,newRow,Array.range_zero']
 refine G7 rfl (O5 hrun (kk w.heap.size _ _ (hf'.put hd _) ?_));refine(hs.alloc (.cells #[] e)).conv Upd.here rfl λhh=>?_
 have:=a4B (sz:=sz) (n:=0) (cap:=0) hh (qz _) (by unfold maxLen;omega) (by simp);simp only[Nat.zero_mul,zZ]at this;exact this
def a5S(P:Program):List Field->Option (List (Nat×Nat))
 | []=>some []
 |f::fs=>match P.info? f.type,a5S P fs with
  |some i,some r=>some ((f.offset,i.size)::r)
  |_,_=>none
theorem a9l(w:World):∀{fs:List Field}{pl:List (Nat×Nat)},a5S P fs=some pl->(fs.mapM λ(f:Field)=>do pure (f.offset,<-sizeOf f.type):Sem (List (Nat×Nat))).run P w=.ok pl w
 | [],pl,h=>by simp only[a5S,qs]at h;subst h;simp
 |f::fs,pl,h=>by
  simp only[a5S]at h;cases h1:P.info? f.type with
  |none=>simp[h1]at h
  |some i=>
   cases h2:a5S P fs with
   |none=>simp[h1,h2]at h
   |some r=>simp only[h1,h2,qs]at h;subst h;have ih:=a9l w h2;simp only[List.mapM_cons,Sem.run_bind,sizeOf,typeInfo,run_program,Result.andThen_ok,h1,Sem.run_pure];simp only[sizeOf,typeInfo]at ih;rw[ih];simp
theorem PO.build{t:TypeId}{fs:Array Field}{ps:List (Nat×Operand)}{vs:List (Nat×Value)}{z:Value}{zs cs:Lv}{pl:List (Nat×Nat)}(ht:P.underlying t=some (.struct fs))(hpl:a5S P fs.toList=some pl)
 (hz:(P.info? t).bind (·.zero)=some z) (hzs:W4 z=some zs) (ev:EvP n F ps vs) (hf:a4I (pl[·]?) zs vs=some cs):PO P ⟨dst,.build t ps.toArray,ty,pos,after,g⟩ n F h m (.agg cs.toArray):=.mk λf w hf' _=>by
 have hfill:=a1C hf;have em:(ps.toArray.map λ(i,x)=>(i,f.eval x))=vs.toArray:=by rw[List.map_toArray];exact congrArg List.toArray (ev.map hf')
 have hzc:z.cells=zs.toArray:=by rw[<-P4 hzs]
 simp only[execOp];rw[em];have hrf:=a9l (P:=P) w hpl;have hrun:(Instr.build t vs.toArray).run P w=.ok (.agg cs.toArray) w:=by
  cases hi:P.info? t with
  |none=>simp[hi]at hz
  |some i=>
   have hz':i.zero=some z:=by simpa [hi]using hz
   simp only[Instr.build,zeroValue,typeInfo,Sem.run_bind,run_program,Result.andThen_ok,hi,Sem.run_pure,hz',run_underlying ht];rw[show fs=fs.toList.toArray by simp,List.mapM_toArray];simp only[Sem.run_map,hrf,Result.andThen_ok];have e2:(λx:Nat=>pl.toArray[x]?)=(pl[·]?):=by funext x;simp
   simp only[hzc,e2,hfill];rfl
 simp[hrun]
theorem a2M{l:Lo}{b k sz:Nat}{cs:Lv}{e:TypeId}(hl:cs.length=k*sz)(hk:k<=9223372036854775807)(u:Upd h (.pt b (.cells cs.toArray e (0,0))) (.row (.slice (some ⟨b,0,none⟩) k k) e sz k cs) h')
 (kk:WL P ops Q n l F h' m):WL P ops Q n l F h m:=WL.conv u rfl (λw hw=>by
 have:=a4B (sz:=sz) (n:=k) (cap:=k) hw (qz _) (by unfold maxLen;omega) (by simpa using hl);rw[show(cs.toArray.toList.take (k*sz))=cs from by rw[qC (by simp[hl])]]at this;exact this) kk
theorem SR.buildSlice{eff:List Nat}{t':Tl}{hs hp:Lr}{q:Nat}{s:Tr}{t e k:Nat}{sz by_:Nat}{ps:List (Nat×Operand)}{vs:List (Nat×Value)}{z:Value}{zs cs:Lv}
 (ho:ops[q]?=some ⟨some d,.buildSlice t k ps.toArray,ty,pos,after,none⟩) (he:eff.contains q=true) (E:EL P t e sz by_) (hz:(P.info? e).bind (·.zero)=some z) (ev:EvP n F ps vs)
 (hzs:a8h z k=some zs) (hf:a4I (λi=>some (i*sz,sz)) zs vs=some cs) (hk:k*sz<=16777216) (h0:Nat.beq (k*sz) 0=false) (hd:d<n.num)
 (kk:∀b,SR P ops Q n eff t' hs s ((d,.slice (some ⟨b,0,none⟩) k k)::F) (.pt b (.cells cs.toArray e (0,0))::hp) m) :
 SR P ops Q n eff t' hs (.op q s) F hp m:=⟨_,ho,λy hy=>by cases hy;exact hd,by
 rw[he];cases hmk:a4n ⟨some d,.buildSlice t k ps.toArray,ty,pos,after,none⟩&&eff.contains 4096 with
 |true=>refine⟨λ_ a ha=>⟨k,_,_,λw=>a08 (P:=P) w (dst:=some d) (ty:=ty) (pos:=pos) (after:=after) (g:=none) E hz ev hzs hf hk h0 ha⟩,λa ha k' cs' e' hout b ⟨_,_,w0,_,_⟩=>?_⟩;have h1:=(hout w0).symm.trans (a08 (P:=P) w0 (dst:=some d) (ty:=ty) (pos:=pos) (after:=after) (g:=none) E hz ev hzs hf hk h0 ha);simp only[Result.ok.injEq,Next.value.injEq,Value.slice.injEq,and_self,World.alloc,true_and]at h1;obtain⟨⟨rfl,_⟩,h2⟩:=h1;have h3:w0.heap.push (.cells cs' e')=w0.heap.push (.cells cs.toArray e):=congrArg World.heap h2;have h4:=(Array.push_eq_push.1 h3).1;cases h4;exact(kk b).e
 |false=>
 refine⟨λfr f w hf' st=>⟨λ_=>?_,λh=>by simp[Region.wanted]at h⟩⟩;have hrun:=a08 (P:=P) w (dst:=some d) (ty:=ty) (pos:=pos) (after:=after) (g:=none) E hz ev hzs hf hk h0 hf';rw[hrun];exact⟨m,.pt w.heap.size (.cells cs.toArray e)::hp,View.le.refl m,(st.alloc _).perm qL.symm,λ_=>qo _ _,(kk _).e⟩⟩
end
end Go.Eng
namespace Go.Eng
open Go Go.RowKit
theorem Rd.fr{m:View}{h:Lr}{a:Oa}{n cap sz:Nat}{xs:Lv}(s:Rd m h a n cap sz xs)(fr:Lr):Rd m (fr++h) a n cap sz xs:=s.mono (View.le.refl m) (qc fr h)
theorem CT.val{P:Program}{f:FuncId}{args:Lv}{h:Lr}{m:View}{v v':Value}(c:CT P f args h m (A5 h v))(e:v=v'):CT P f args h m (A5 h v'):=e▸c
theorem CT.conv{P:Program}{f:FuncId}{args:Lv}{h:Lr}{m:View}{R R':Value->View->Lr->Prop}(c:CT P f args h m R)
 (k:∀v m' h' w,m.le m'->St m' h' w->R v m' h'->∃m'' h'',m'.le m''/\St m'' h'' w/\R' v m'' h''):CT P f args h m R':=
 ⟨c.enter,λw hs=>Calls.mono (c.calls w hs) (by
  rintro e w' ⟨v,m',h',rfl,hle,hst,hR⟩;obtain⟨m2,h2,h3,h4,h5⟩:=k v m' h' w' hle hst hR;exact⟨v,m2,h2,rfl,hle.trans h3,h4,h5⟩)⟩
section
variable {P:Program}{ops:Array Oper}{Q:Exit->Pw}{n:Cx}{F:Fm}{h h':Lr}{m:View}{rest:Lo}
variable {ty:TypeId}{pos:String}{after:Array Edge}{dst:Option Tmp}{g:Option (Nat×Bool)}{d:Nat}
theorem b8G(w:World)(b:Nat)(cs:Array Value)(e:TypeId)(k:Nat)(hb:w.heap[b]?=some (.cells cs e (0,0))) :
 (w.freeze ⟨b,k,none⟩ 1).heap[b]?=some (.cells cs e (k,k+1))/\(∀q,q≠b->(w.freeze ⟨b,k,none⟩ 1).heap[q]?=w.heap[q]?) /\
 (w.freeze ⟨b,k,none⟩ 1).os=w.os/\(w.freeze ⟨b,k,none⟩ 1).output=w.output/\(w.freeze ⟨b,k,none⟩ 1).tape=w.tape:=by
 unfold World.freeze;rw[if_neg (by decide)];refine⟨?_,λq hq=>?_,rfl,rfl,rfl⟩
 ·simp[Array.getElem?_modify,hb]
 ·simp[Array.getElem?_modify,Ne.symm hq]
end
end Go.Eng
namespace Go.Eng
open Go Go.RowKit Go.ChangeShapes Go.WideShapes Go.ChangeAt Go.Joins
def a1X(W:World):View:=⟨λb=>W.heap[b]?,W.os,W.output,W.tape⟩
theorem St.start(W:World):St (a1X W) [] W:=⟨rfl,rfl,rfl,λ_ _ h=>h,(λr hr=>by cases hr),.nil,(λr hr=>by cases hr)⟩
theorem a0H{W:World}{a:Addr}{v:Value}(h:W.cell? a=some v):(a1X W).cell a=some v:=by
 unfold World.cell? at h;unfold View.cell a1X;simp only;split at h
 ·rename_i c e z hc;rw[hc];exact h
 ·cases h
theorem St.below{W w':World}{m':View}{h':Lr}(hle:(a1X W).le m')(st:St m' h' w'):Below W.heap.size W w':=by
 have hb:∀k,k<W.heap.size->w'.heap[k]?=W.heap[k]?:=λk hk=>by
  have e:W.heap[k]?=some W.heap[k]:=z2 hk;rw[e];exact st.blk k _ (hle.blk k _ e)
 refine⟨st.os.trans hle.os,st.tape.trans hle.tape,st.out.trans hle.out,?_,hb⟩;rcases Nat.eq_zero_or_pos W.heap.size with h0|h0
 ·omega
 ·have h1:=hb (W.heap.size-1) (by omega)
  have h2:W.heap[W.heap.size-1]?=some W.heap[W.heap.size-1]:=z2 (by omega);rw[h2]at h1;have:=(zn.1 h1).1;omega
section
variable {H:Type}{enc:TypeId×Value->H}{P:Program}
theorem a7p{W W':World}(hl:laidOutB P=true)(hb:Below W.heap.size W W'):∀{ts:List TypeId}{vs:Lv}{ds:List (DataW H)}{ps:List MemPlace},(∀t∈ts,P.readableRec t=true/\t<P.types.size) ->
 DataW.TrodAll enc P W 0 (λ_=>true) true ts vs ds ps->(∀x∈ps,x.block<W.heap.size)->DataW.TrodAll enc P W' 0 (λb=>decide (b<W.heap.size)) true ts vs ds ps
 | [],[],[],ps,_,h,_=>h
 |t::ts,v::vs,d::ds,ps,ht,h,hlt=>by
  obtain⟨p,q,h1,h2,rfl⟩:=h;exact⟨p,q,Below.trod hl (ht t (by simp)).1 (ht t (by simp)).2 h1 hb (λx hx=>hlt x (by simp[hx])),a7p hl hb (λt' h'=>ht t' (by simp[h'])) h2 (λx hx=>hlt x (by simp[hx])),rfl⟩
 | [],_::_,_,_,_,h,_|[],[],_::_,_,_,h,_|_::_,[],_,_,_,h,_|_::_,_::_,[],_,_,h,_=>h.elim
theorem a8o{W:World}{base:Nat}{spare:Nat->Bool}{held:Bool}:∀{ts:List TypeId}{vs:Lv}{ds:List (DataW H)}{ps:List MemPlace},DataW.TrodAll enc P W base spare held ts vs ds ps->ds.length=ts.length
 | [],[],[],_,_=>rfl
 |_::ts,_::vs,_::ds,_,h=>by
  obtain⟨p,q,_,h2,_⟩:=h;simp[a8o h2]
 | [],_::_,_,_,h|[],[],_::_,_,h|_::_,[],_,_,h|_::_,_::_,[],_,h=>h.elim
theorem c3n{C:Checked}{f:FuncId}{fn:Func}{s:ChangeSpec}{tb:TypeId}(hlaid:laidOutB C.prog=true)(hrd:fn.params.toList.all (λt=>C.prog.readableRec t&&decide (t<C.prog.types.size))=true)(hvars:s.vars=[])
 (hrt:fn.resultTypes=#[tb]) (htb:C.prog.underlying tb=some .bool) (hspec:∀ds:List (DataW H),ds.length=fn.params.size->s.fn H ds={ results:=[.lit (.bool true)],args:=ds })
 {W:World} {args:Array Value} {ds gs:List (DataW H)} {before:List MemPlace} (hW:DataW.Whole enc C.prog fn.params.toList s.vars false W args.toList ds gs before)
 (hct:CT C.prog f args.toList [] (a1X W) (λv _ _=>v=.bool true)) :
 Calls C.prog f args W λe W'=>∃v,e=.returned v/\s.post enc C.prog fn false true false false W args v W':=by
 have hW':=hW;obtain⟨p,q,hA,hV,rfl,hfz,hnd⟩:=hW;rw[hvars]at hV;obtain⟨rfl,rfl⟩:=trodVars_none hV;refine Calls.mono (by simpa using hct.calls W (St.start W)) ?_;rintro e W' ⟨v,m',h',rfl,hle,hst,rfl⟩;have hb:=hst.below hle;have hlt:∀x∈p,x.block<W.heap.size:=λx hx=>by simpa using hW'.lt x (by simp[hx])
 have hs:=hspec (ds++[]) (by simpa using a8o hA);have hrd':∀t∈fn.params.toList,C.prog.readableRec t=true/\t<C.prog.types.size:=λt ht=>by
  have:=zc.1 hrd t ht;simpa using this
 refine⟨_,rfl,ds,[],p++[],[],p,[],hW',?_,?_,?_,World.keptBut_mono (λx hx=>?_) (hb.frame (·∈p++[])),λh=>by cases h⟩
 ·rw[hs,hrt]
  exact trodAll_mk1 (shut_bool htb true)
 ·rw[hs,zF]
  exact a7p hlaid hb hrd' hA hlt
 ·rw[hs,hvars];rfl
 ·exact⟨hx,.inr (.inl (by simpa using hx))⟩
end
end Go.Eng
end
section
namespace Go.Eng
open Go Go.RowKit
theorem b1p{a b:Bool}(h:(a&&b)=true):a=true:=by cases a<;>simp_all
theorem c9C{a b:Bool}(h:(a&&!b)=true):b=false:=by cases a<;>simp_all
theorem b5P{α:Type}[BEq α][LawfulBEq α]{x y:α}(h:(x==y)=true):x=y:=eq_of_beq h
theorem b2u{α:Type}[BEq α][LawfulBEq α]{x y:α}(h:(x==y)=false):x≠y:=ne_of_beq_false h
theorem d0o{α:Type}[BEq α][LawfulBEq α]{x y:α}(h:(x !=y)=true):x≠y:=bne_iff_ne.1 h
theorem d0c{α:Type}[BEq α][LawfulBEq α]{x y:α}(h:(x !=y)=false):x=y:=by simpa using h
section
variable {P:Program}{ops:Array Oper}{Q:Exit->Pw}{n:Cx}{F:Fm}{h h':Lr}{m:View}{rest:Lo}
variable {ty:TypeId}{pos:String}{after:Array Edge}{dst:Option Tmp}{g:Option (Nat×Bool)}{d:Nat}
theorem St.back{m m':View}{h:Lr}{w:World}(s:St m' h w)(hm:m.le m'):St m h w:=s.weaken hm (zi _)
theorem F9{f:Operand}{args:List Operand}{tys:Array TypeId}{vs first cap:Lv}{q:FuncId}{R:Value->Lr->Prop}(ef:Ev n F f (.func (.func q) first.toArray cap.toArray))(ea:Evs n F args vs)
 (c:CT P q (first++vs++cap) h m (λv _ h'=>R v h')) (hd:d<n.num) (k:∀v h',R v h'->WL P ops Q n rest ((d,v)::F) h' m) :
 WL P ops Q n (⟨some d,.call ⟨.value f,args.toArray,tys⟩,ty,pos,after,none⟩::rest) F h m:=.mk λa w ha hs=>by
 refine G7 rfl ?_;unfold Oper.wp;rw[Y8 ha ef ea c.enter];refine Calls.mono (c.calls w hs) ?_;rintro e w' ⟨v,m',h',rfl,hle,hst,hR⟩;exact k v h' hR _ _ (ha.put hd v) (hst.back hle)
theorem P6{f:Operand}{args:List Operand}{tys:Array TypeId}{vs first cap:Lv}{q:FuncId}{v:Value}(ef:Ev n F f (.func (.func q) first.toArray cap.toArray))(ea:Evs n F args vs)
 (c:CT P q (first++vs++cap) h m (A5 h v)) (hd:d<n.num) (k:WL P ops Q n rest ((d,v)::F) h m) :
 WL P ops Q n (⟨some d,.call ⟨.value f,args.toArray,tys⟩,ty,pos,after,none⟩::rest) F h m:=
 F9 (R:=λv' h'=>v'=v/\h'=h) ef ea c hd λ_ _ hR=>by obtain⟨rfl,rfl⟩:=hR;exact k
structure GU(ops:Array Oper)(n:Cx)(F:Fm)(g:Nat×Bool)(c:Bool):Prop where
 e:∀a,Fr n F a->(yielded ops a.tmps g.1==some g.2)=c
theorem a6i{j t:Nat}{a:Act}(hj:a3k ops j=some t)(hc:a.tmps[t]?=some undef):yielded ops a.tmps j=none:=by unfold yielded;unfold a3k at hj;simp[hj,hc,undef]
theorem GU.t{j t:Nat}{c:Bool}(hj:a3k ops j=some t)(hc:look F t=some (.bool c)):GU ops n F (j,true) c:=⟨λa ha=>by
 rw[a4y hj (ha.get t _ hc)];cases c<;>rfl⟩
theorem GU.f{j t:Nat}{c:Bool}(hj:a3k ops j=some t)(hc:look F t=some (.bool c)):GU ops n F (j,false) (!c):=⟨λa ha=>by
 rw[a4y hj (ha.get t _ hc)];cases c<;>rfl⟩
theorem a0m{j t:Nat}{c b:Bool}(hj:a3k ops j=some t)(hc:look F t=some (gv c (.bool b))):GU ops n F (j,true) (c&&b):=⟨λa ha=>by
 have h1:=ha.get t _ hc;cases c with
 |true=>rw[a4y hj h1];cases b<;>rfl
 |false=>rw[a6i hj h1];rfl⟩
theorem a4M{j t:Nat}{c b:Bool}(hj:a3k ops j=some t)(hc:look F t=some (gv c (.bool b))):GU ops n F (j,false) (c&&!b):=⟨λa ha=>by
 have h1:=ha.get t _ hc;cases c with
 |true=>rw[a4y hj h1];cases b<;>rfl
 |false=>rw[a6i hj h1];rfl⟩
theorem GU.wanted{op:Op}{gd:Nat×Bool}{c:Bool}(hg:GU ops n F gd c){a:Act}(ha:Fr n F a):Region.wanted ⟨dst,op,ty,pos,after,some gd⟩ (yielded ops a.tmps)=c:=hg.e a ha
theorem C2{op:Op}{gd:Nat×Bool}{c:Bool}{v:Value}(hg:GU ops n F gd c)(hp:c=true->PO P ⟨some d,op,ty,pos,after,some gd⟩ n F h m v)(hd:d<n.num)(k:WL P ops Q n rest ((d,gv c v)::F) h m) :
 WL P ops Q n (⟨some d,op,ty,pos,after,some gd⟩::rest) F h m:=.mk λa w ha hs=>by
 have hy:=hg.wanted (dst:=some d) (op:=op) (ty:=ty) (pos:=pos) (after:=after) ha;cases c with
 |true=>exact G7 hy (O5 (hp rfl a w ha hs) (k _ _ (ha.put hd v) hs))
 |false=>unfold wpList;rw[if_neg (by rw[hy];decide)];exact k _ _ (ha.put hd undef) hs
theorem A3{f:Operand}{args:List Operand}{tys:Array TypeId}{vs first cap:Lv}{q:FuncId}{gd:Nat×Bool}{c:Bool}{v:Value}(hg:GU ops n F gd c)
 (hp:c=true->Ev n F f (.func (.func q) first.toArray cap.toArray)/\Evs n F args vs/\CT P q (first++vs++cap) h m (A5 h v)) (hd:d<n.num) (k:WL P ops Q n rest ((d,gv c v)::F) h m) :
 WL P ops Q n (⟨some d,.call ⟨.value f,args.toArray,tys⟩,ty,pos,after,some gd⟩::rest) F h m:=.mk λa w ha hs=>by
 have hy:=hg.wanted (dst:=some d) (op:=.call ⟨.value f,args.toArray,tys⟩) (ty:=ty) (pos:=pos) (after:=after) ha;cases c with
 |true=>obtain⟨ef,ea,ct⟩:=hp rfl;refine G7 hy ?_;unfold Oper.wp;rw[Y8 ha ef ea ct.enter];refine Calls.mono (ct.calls w hs) ?_;rintro e w' ⟨v',m',h',rfl,hle,hst,rfl,rfl⟩;exact k _ _ (ha.put hd _) (hst.back hle)
 |false=>unfold wpList;rw[if_neg (by rw[hy];decide)];exact k _ _ (ha.put hd undef) hs
theorem b6U{op:Op}{gd:Nat×Bool}{c:Bool}(hg:GU ops n F gd c)(hc:c=true)(k:WL P ops Q n (⟨dst,op,ty,pos,after,none⟩::rest) F h m) :
 WL P ops Q n (⟨dst,op,ty,pos,after,some gd⟩::rest) F h m:=.mk λa w ha hs=>by
 subst hc;have hy:=hg.wanted (dst:=dst) (op:=op) (ty:=ty) (pos:=pos) (after:=after) ha;have:=k a w ha hs;unfold wpList at this⊢;rw[if_pos hy];rw[show Region.wanted (⟨dst,op,ty,pos,after,none⟩:Oper) (yielded ops a.tmps)=true from rfl,if_pos rfl]at this;exact this
theorem c0h{op:Op}{gd:Nat×Bool}{c:Bool}(hg:GU ops n F gd c)(hc:c=false)(hd:d<n.num)(k:WL P ops Q n rest ((d,undef)::F) h m) :
 WL P ops Q n (⟨some d,op,ty,pos,after,some gd⟩::rest) F h m:=.mk λa w ha hs=>by
 subst hc;have hy:=hg.wanted (dst:=some d) (op:=op) (ty:=ty) (pos:=pos) (after:=after) ha;unfold wpList;rw[if_neg (by rw[hy];decide)];exact k _ _ (ha.put hd undef) hs
theorem N3{t u:Nat}{c0 c b:Bool}(h0:c0=true)(e:look F t=some (gv c0 (.bool c)))(e1:look F u=some (gv (c0&&c) (.bool b))) :
 PO P ⟨dst,.pick (.tmp t) (.tmp u) (.const (.bool false)),ty,pos,after,g⟩ n F h m (.bool (c&&b)):=by
 subst h0;exact a6B e (by simpa using e1)
theorem a2T{t u:Nat}{c0 c b:Bool}(h0:c0=true)(e:look F t=some (gv c0 (.bool c)))(e1:look F u=some (gv (c0&&!c) (.bool b))) :
 PO P ⟨dst,.pick (.tmp t) (.const (.bool true)) (.tmp u),ty,pos,after,g⟩ n F h m (.bool (c||b)):=by
 subst h0;exact b2c e (by simpa using e1)
theorem PO.nilCheck{x:Operand}{a:Addr}(e:Ev n F x (.pointer (some a))):PO P ⟨dst,.nilCheck x,ty,pos,after,g⟩ n F h m (.pointer (some a)):=.mk λb w hb _=>by
 simp[execOp,e b hb]
theorem PO.min{x y:Operand}{i j:Int}{t:TypeId}(ex:Ev n F x (.int .i64 i))(ey:Ev n F y (.int .i64 j)) :
 PO P ⟨dst,.call ⟨.builtin .min,#[x,y],#[t,t]⟩,ty,pos,after,g⟩ n F h m (.int .i64 (if j<i then j else i)):=.mk λb w ha _=>by
 simp[execOp,resolve,invoke,builtin,ex b ha,ey b ha,run_min_int2]
section
variable {eff:List Nat}{t:Tl}{hs hp:Lr}{i:Nat}{s:Tr}{op:Op}{v:Value}
theorem B2{gd:Nat×Bool}{c:Bool}(ho:ops[i]?=some ⟨some d,op,ty,pos,after,some gd⟩)(he:eff.contains i=false)(hg:GU ops n F gd c)
 (p:c=true->PO P ⟨some d,op,ty,pos,after,some gd⟩ n F hs m v) (hd:d<n.num) (k:SR P ops Q n eff t hs s ((d,gv c v)::F) hp m) :
 SR P ops Q n eff t hs (.op i s) F hp m:=⟨_,ho,λx hx=>by cases hx;exact hd,by
 rw[he];refine⟨gv c v,⟨λa w ha st=>?_⟩,k.e⟩;have hy:=hg.wanted (dst:=some d) (op:=op) (ty:=ty) (pos:=pos) (after:=after) ha;cases c with
 |true=>exact⟨λ_=>p rfl a w ha st,λh=>by rw[hy]at h;cases h⟩
 |false=>exact⟨λh=>(by rw[hy]at h;cases h),λ_=>rfl⟩⟩
theorem Upd.right{l h h':Lr}{r r':Res}(u:Upd h r r' h'):Upd (l++h) r r' (l++h'):=by
 induction l with
 |nil=>exact u
 |cons x l ih=>exact .next ih
theorem Upd.left{l h h':Lr}{r r':Res}(u:Upd h r r' h'):Upd (h++l) r r' (h'++l):=by
 induction u with
 |here=>exact .here
 |next _ ih=>exact .next ih
theorem SR.store{x y:Operand}{tt:TypeId}{b off:Nat}{cs cs' vs:Lv}{e:TypeId}{v:Value}{hp':Lr}(ho:ops[i]?=some ⟨none,.store tt x y,ty,pos,after,none⟩)(he:eff.contains i=true)
 (hq:(P.info? tt).map (·.size)=some vs.length) (ex:Ev n F x (.pointer (some ⟨b,off,none⟩))) (ey:Ev n F y v)
 (hvs:W4 v=some vs) (h1:vs.all (·.oneCell')=true) (h0:vs.isEmpty=false) (hc:a1N cs off vs=some cs')
 (u:Upd hp (.pt b (.cells cs.toArray e (0,0))) (.pt b (.cells cs'.toArray e (0,0))) hp') (k:SR P ops Q n eff t hs s F hp' m):SR P ops Q n eff t hs (.op i s) F hp m:=⟨_,ho,λx hx=>(by cases hx),by
 rw[he];refine⟨λfr a w ha st=>⟨λ_=>?_,λh=>by simp[Region.wanted]at h⟩⟩;have hne:vs≠[]:=by cases vs<;>simp_all
 have e1:=a9J hc;subst e1;have h1:∀u∈vs,u.oneCell'=true:=by simpa using h1
 have hvs:=P4 hvs;subst hvs;have uu:Upd (fr++(hp++hs)) _ _ (fr++(hp'++hs)):=(u.left).right;have hb:w.heap[b]?=some (.cells cs.toArray e (0,0)):=st.ok _ uu.mem;have hr:=run_storeCells_at P b off e v.cells.toList 0 cs.toArray w hb (by have:=a7L hc hne;simpa using this) h1;have hrun:(execOp a.eval ⟨none,.store tt x y,ty,pos,after,none⟩).run P w=.ok .skip (w.setRow b (cs.take off++v.cells.toList++cs.drop (off+v.cells.toList.length)).toArray):=by
  cases hi:P.info? tt with
  |none=>simp[hi]at hq
  |some i=>
   have e1:i.size=v.cells.size:=by simpa [hi]using hq
   have hr':=hr;simp only[Nat.add_zero]at hr';simp[execOp,ex a ha,ey a ha,Instr.storeAt,Instr.sureAddr,storeVar,sizeOf,typeInfo,hi,e1]at hr'⊢;rw[hr'];rfl
 rw[hrun];exact⟨m,hp',View.le.refl m,st.setRow uu,nofun,k.e⟩⟩
theorem WL.take{l:Lo}{r:Res}(dl:Del h r h')(k:WL P ops Q n l F (r::h') m):WL P ops Q n l F h m:=.mk λa w ha hs=>k a w ha (hs.perm dl.perm)
theorem WC.take{c:Code}{r:Res}(dl:Del h r h')(k:WC P c Q n F (r::h') m):WC P c Q n F h m:=.mk λa w ha hs=>k a w ha (hs.perm dl.perm)
theorem c3J{f:Operand}{args:List Operand}{tys:Array TypeId}{vs first cap:Lv}{q:FuncId}{v:Value}(ho:ops[i]?=some ⟨some d,.call ⟨.value f,args.toArray,tys⟩,ty,pos,after,none⟩)
 (he:eff.contains i=true) (ef:Ev n F f (.func (.func q) first.toArray cap.toArray)) (ea:Evs n F args vs) (c:∀fr,CT P q (first++vs++cap) (fr++(hp++hs)) m (A5 (fr++(hp++hs)) v)) (hd:d<n.num)
 (k:SR P ops Q n eff t hs s ((d,v)::F) hp m):SR P ops Q n eff t hs (.op i s) F hp m:=⟨_,ho,λx hx=>by cases hx;exact hd,by
 rw[he];refine⟨λfr a w ha st=>⟨λ_=>?_,λh=>by simp[Region.wanted]at h⟩⟩;rw[Y8 ha ef ea (c fr).enter];refine Calls.mono ((c fr).calls w st) ?_;rintro e w' ⟨v,m',h',rfl,hle,hst,rfl,rfl⟩;exact .inl ⟨_,rfl,m,hp,View.le.refl m,hst.back hle,nofun,k.e⟩⟩
theorem H8{f:Operand}{args:List Operand}{tys:Array TypeId}{vs first cap:Lv}{q:FuncId}{gd:Nat×Bool}{c:Bool}{v:Value}(ho:ops[i]?=some ⟨some d,.call ⟨.value f,args.toArray,tys⟩,ty,pos,after,some gd⟩)
 (he:eff.contains i=true) (hg:GU ops n F gd c)
 (p:c=true->Ev n F f (.func (.func q) first.toArray cap.toArray)/\Evs n F args vs/\∀fr,CT P q (first++vs++cap) (fr++(hp++hs)) m (A5 (fr++(hp++hs)) v)) (hd:d<n.num)
 (k:SR P ops Q n eff t hs s ((d,gv c v)::F) hp m):SR P ops Q n eff t hs (.op i s) F hp m:=⟨_,ho,λx hx=>by cases hx;exact hd,by
 rw[he];refine⟨λfr a w ha st=>?_⟩;have hy:=hg.wanted (dst:=some d) (op:=.call ⟨.value f,args.toArray,tys⟩) (ty:=ty) (pos:=pos) (after:=after) ha;cases c with
 |true=>refine⟨λ_=>?_,λh=>by rw[hy]at h;cases h⟩;obtain⟨ef,ea,ct⟩:=p rfl;rw[Y8 ha ef ea (ct fr).enter];refine Calls.mono ((ct fr).calls w st) ?_;rintro e w' ⟨v',m',h',rfl,hle,hst,rfl,rfl⟩;exact .inl ⟨_,rfl,m,hp,View.le.refl m,hst.back hle,nofun,k.e⟩
 |false=>exact⟨λh=>(by rw[hy]at h;cases h),λ_=>⟨nofun,k.e⟩⟩⟩
end
def eqC(d:TypeDesc):Value->Value->Option Bool
 | .bool a,.bool b=>match d with
  | .bool=>some (a==b)
  |_=>none
 | .int k a,.int k' b=>match d with
  | .int _=>if k=k' then some (a==b)else none
  |_=>none
 | .string ⟨⟨a⟩⟩,.string ⟨⟨b⟩⟩=>match d with
  | .string=>some (a==b)
  |_=>none
 |_,_=>none
def b5Y(P:Program)(xs ys:Lv):List Field->Option Bool
 | []=>some true
 |f::fs=>match P.underlying f.type with
  |some d=>match N5 d with
   |true=>match xs[f.offset]? with
    |some a=>match ys[f.offset]? with
     |some b=>match eqC d a b with
      |some r=>match b5Y P xs ys fs with
       | some q => match (f.name != "_") with
        |true=>some (r&&q)
        |false=>none
       |none=>none
      |none=>none
     |none=>none
    |none=>none
   |false=>none
  |none=>none
theorem b7x(w:World){d:Nat}{t:TypeId}{ds:TypeDesc}(ht:P.underlying t=some ds){a b:Value}{r:Bool}(he:eqC ds a b=some r):(Op.equalIn (d+1) t a b).run P w=.ok r w:=by
 unfold eqC at he;split at he
 ·split at he
  ·cases he;exact run_equalIn_bool' w d t _ _ ht
  ·cases he
 ·split at he
  ·split at he
   ·rename_i hk;subst hk;cases he;exact run_equalIn_int w d t _ _ _ _ ht
   ·cases he
  ·cases he
 ·split at he
  ·cases he
   rename_i a b _;rw[run_equalIn_string w d t _ _ ht,ByteArray.toList_eq,ByteArray.toList_eq]
  ·cases he
 ·cases he
theorem a7o(w:World)(d:Nat)(xs ys:Lv):∀{fs:List Field}{r:Bool},b5Y P xs ys fs=some r->(Op.eqFields (d+1) xs.toArray ys.toArray fs).run P w=.ok r w
 | [],r,he=>by cases he;simp[Op.eqFields]
 |f::fs,r,he=>by
  unfold b5Y at he;cases h1:P.underlying f.type with
  |none=>simp[h1]at he
  |some ds=>
   simp only[h1]at he;cases h2:N5 ds with
   |false=>simp[h2]at he
   |true=>
    simp only[h2]at he;cases h3:xs[f.offset]? with
    |none=>simp[h3]at he
    |some a=>
     simp only[h3]at he;cases h4:ys[f.offset]? with
     |none=>simp[h4]at he
     |some b=>
      simp only[h4]at he;cases h5:eqC ds a b with
      |none=>simp[h5]at he
      |some c=>
       simp only[h5]at he;cases h6:b5Y P xs ys fs with
       |none=>simp[h6]at he
       |some q=>
        simp only[h6] at he;cases h7 : (f.name != "_") with
        |false=>simp[h7]at he
        |true=>
         simp only[h7,qs] at he;subst he;have h8 : f.name ≠ "_" := by simpa using h7
         have ih:=a7o w d xs ys h6;have e5:=b7x (P:=P) w (d:=d) h1 h5;simp only[Op.eqFields,if_pos h8,Sem.run_bind];have ea:(part f.type xs.toArray f.offset).run P w=.ok a w:=by simp[part,L2 w h1 h2,h3]
         have eb:(part f.type ys.toArray f.offset).run P w=.ok b w:=by simp[part,L2 w h1 h2,h4]
         rw[ea,Result.andThen_ok,eb,Result.andThen_ok,e5,Result.andThen_ok];cases c
         ·simp
         ·simpa using ih
theorem U4{x y:Operand}{t t':TypeId}{fs:Array Field}{as bs:Lv}{r:Bool}(ht:P.underlying t=some (.struct fs))(hs:P.stoodInHeld t=false)(hm:P.eqGuardType P.depth t=false)(ex:Ev n F x (.agg as.toArray))(ey:Ev n F y (.agg bs.toArray))
 (hr:b5Y P as bs fs.toList=some r):PO P ⟨dst,.binOp .eql t x y t',ty,pos,after,g⟩ n F h m (.bool r):=.mk λa w ha _=>by
 have hf:P.fieldsOf t=fs:=by simp[Program.fieldsOf,ht]
 have e1:=run_equalIn_struct (P:=P) w 9999 t as.toArray bs.toArray (by rw[hf];exact ht) hs;rw[hf,a7o w 9998 as bs hr]at e1;simp[execOp,ex a ha,ey a ha,run_eqGuard_agg w _ t _ _ _ _ hm,run_eql_struct,e1]
theorem a3j{x y:Operand}{t t':TypeId}{fs:Array Field}{as bs:Lv}{r:Bool}(ht:P.underlying t=some (.struct fs))(hs:P.stoodInHeld t=false)(hm:P.eqGuardType P.depth t=false)(ex:Ev n F x (.agg as.toArray))(ey:Ev n F y (.agg bs.toArray))
 (hr:b5Y P as bs fs.toList=some r):PO P ⟨dst,.binOp .neq t x y t',ty,pos,after,g⟩ n F h m (.bool (!r)):=.mk λa w ha _=>by
 have hf:P.fieldsOf t=fs:=by simp[Program.fieldsOf,ht]
 have e1:=run_equalIn_struct (P:=P) w 9999 t as.toArray bs.toArray (by rw[hf];exact ht) hs;rw[hf,a7o w 9998 as bs hr]at e1;simp[execOp,ex a ha,ey a ha,run_eqGuard_agg w _ t _ _ _ _ hm,run_neq_struct,e1]
def fl{α:Type}(enc:α->Lv)(l:List α):Lv:=l.flatMap enc
section
variable {α:Type}{enc:α->Lv}{sz:Nat}
theorem a2F(l r:List α):fl enc (l++r)=fl enc l++fl enc r:=by simp[fl]
theorem D9(l:List α)(x:α):fl enc l++enc x=fl enc (l++[x]):=by simp[fl]
theorem a6y(henc:∀x,(enc x).length=sz)(l:List α):(fl enc l).length=l.length*sz:=by
 induction l with
 |nil=>simp[fl]
 |cons x l ih=>simp only[fl,List.flatMap_cons,qh,henc,qJ,zv]at ih⊢;omega
theorem b7U(henc:∀x,(enc x).length=sz)(l:List α)(k:Nat):(fl enc l).drop (k*sz)=fl enc (l.drop k):=by
 induction l generalizing k with
 |nil=>simp[fl]
 |cons x l ih=>
  cases k with
  |zero=>simp
  |succ k=>have:=ih k;simp only[fl,List.flatMap_cons,List.drop_succ_cons]at this⊢;rw[List.drop_append,henc,qb (by rw[henc,zv];omega),zO,show(k+1)*sz-sz=k*sz by rw[zv];omega,this]
theorem b8e(henc:∀x,(enc x).length=sz)(l:List α)(k:Nat):(fl enc l).take (k*sz)=fl enc (l.take k):=by
 induction l generalizing k with
 |nil=>simp[fl]
 |cons x l ih=>
  cases k with
  |zero=>simp[fl]
  |succ k=>have:=ih k;simp only[fl,List.flatMap_cons,List.take_succ_cons]at this⊢;rw[List.take_append,henc,qC (by rw[henc,zv];omega),show(k+1)*sz-sz=k*sz by rw[zv];omega,this]
theorem c0S(henc:∀x,(enc x).length=sz){l:List α}{q:Nat}{x:α}(hx:l[q]?=some x):∀j v,(enc x)[j]?=some v->(fl enc l)[q*sz+j]?=some v:=by
 intro j v hj;have h1:j<sz:=by have:=(qd.1 hj).1;rwa [henc]at this
 have:=a6Y (sz:=sz) enc henc l q j h1;rw[fl,this,hx];exact hj
theorem Rd.subF{a:Oa}{k cap:Nat}{l:List α}(henc:∀x,(enc x).length=sz)(s:Rd m h a k cap sz (fl enc l)){i j:Nat}(h1:i<=j)(h2:j<=k) :
 Rd m h (sl1 a i cap sz) (j-i) (cap-i) sz (fl enc ((l.drop i).take (j-i))):=by
 have:=s.sub h1 h2;rwa [b7U henc,b8e henc]at this
theorem Rd.takeF{a:Oa}{k cap:Nat}{l:List α}(henc:∀x,(enc x).length=sz)(s:Rd m h a k cap sz (fl enc l)){j:Nat}(h2:j<=k) :
 Rd m h (sl1 a 0 cap sz) j cap sz (fl enc (l.take j)):=by
 have:=s.subF henc (qi j) h2;simpa using this
theorem Rd.lenF{a:Oa}{k cap:Nat}{l:List α}(henc:∀x,(enc x).length=sz)(h0:0<sz)(s:Rd m h a k cap sz (fl enc l)):l.length=k:=by have:=s.len;rw[a6y henc]at this;exact Nat.eq_of_mul_eq_mul_right h0 this
theorem Rd.dropF{a:Oa}{k cap:Nat}{l:List α}(henc:∀x,(enc x).length=sz)(h0:0<sz)(s:Rd m h a k cap sz (fl enc l)){i:Nat}(h1:i<=k) :
 Rd m h (sl1 a i cap sz) (k-i) (cap-i) sz (fl enc (l.drop i)):=by
 have:=s.subF henc h1 (qz k);rwa [qC (by have:=s.lenF henc h0;simp;omega)]at this
theorem Sl.subF{a:Oa}{k cap:Nat}{l:List α}(henc:∀x,(enc x).length=sz)(s:Sl m a k cap sz (fl enc l)){i j:Nat}(h1:i<=j)(h2:j<=k) :
 Sl m (sl1 a i cap sz) (j-i) (cap-i) sz (fl enc ((l.drop i).take (j-i))):=by
 have:=s.sub h1 h2;rwa [b7U henc,b8e henc]at this
end
theorem Rd.nilF{α:Type}(enc:α->Lv)(sz:Nat)(m:View)(h:Lr):Rd m h none 0 0 sz (fl enc []):=⟨by simp[fl],qz _,by omega,λ_ _ j u hj=>by simp[fl]at hj⟩
theorem A8{α:Type}{l:List α}{k:Nat}(hk:k<l.length):∃x,l[k]?=some x:=⟨l[k],qk hk⟩
theorem take_snoc{α:Type}{l:List α}{k:Nat}{x:α}(hx:l[k]?=some x):l.take (k+1)=l.take k++[x]:=by rw[List.take_add_one,hx];rfl
theorem Rd.inRow{a:Oa}{k cap sz:Nat}{e:TypeId}{ys:Lv}(hm:Res.row (.slice a k cap) e sz k ys∈h)(hl:ys.length=k*sz)(hle:k<=cap)(hmx:cap<=9223372036854775807):Rd m h a k cap sz ys:=Rd.ofRow hl hle hmx hm
theorem b4j{x:Operand}{t:TypeId}{u:TypeDesc}{a:Oa}{len cap q:Nat}{bs:List UInt8}{b:UInt8}(ht:P.underlying t=some u)(hp:N5 u=true)(hs:Rd m h a len cap 1 (bv bs))
 (ex:Ev n F x (.pointer (elt a (q*1)))) (hx:bs[q]?=some b):PO P ⟨dst,.load t x,ty,pos,after,g⟩ n F h m (.int .u8 b.toNat):=
 b0I ht hp hs ex (by rw[Nat.mul_one];exact c1g hx)
theorem b9Z{α:Type}{enc:α->Lv}{x:Operand}{t:TypeId}{u:TypeDesc}{a:Oa}{len cap q:Nat}{l:List α}{y:α}{v:Value}(ht:P.underlying t=some u)(hp:N5 u=true)(henc:∀x,(enc x).length=1)(hs:Rd m h a len cap 1 (fl enc l))
 (ex:Ev n F x (.pointer (elt a (q*1)))) (hx:l[q]?=some y) (hv:enc y=[v]):PO P ⟨dst,.load t x,ty,pos,after,g⟩ n F h m v:=
 b0I ht hp hs ex (by have:=c0S henc hx 0 v (by rw[hv];rfl);simpa using this)
theorem a2q{α:Type}{enc:α->Lv}{x:Operand}{t:TypeId}{u:TypeDesc}{a:Oa}{len cap q sz:Nat}{l:List α}{y:α}{vs:Lv}(ht:P.underlying t=some u)(hp:N5 u=false)(hq:(P.info? t).isSome=true)(henc:∀x,(enc x).length=sz)
 (hs:Rd m h a len cap sz (fl enc l)) (ex:Ev n F x (.pointer (elt a (q*sz)))) (hx:l[q]?=some y) (hv:enc y=vs) (hl:P.cellsOf t=vs.length) (h0:0<vs.length):PO P ⟨dst,.load t x,ty,pos,after,g⟩ n F h m (.agg vs.toArray):=
 b99 ht hp hq hs ex hl h0 (λj v hj=>c0S henc hx j v (by rw[hv];exact hj))
theorem D2{α:Type}{enc:α->Lv}{x:Operand}{t:TypeId}{u:TypeDesc}{a:Oa}{len cap q sz o:Nat}{l:List α}{y:α}{v:Value}(ht:P.underlying t=some u)(hp:N5 u=true)(henc:∀x,(enc x).length=sz)(hs:Rd m h a len cap sz (fl enc l))
 (ex:Ev n F x (.pointer (elt a (q*sz+o)))) (hx:l[q]?=some y) (hv:(enc y)[o]?=some v):PO P ⟨dst,.load t x,ty,pos,after,g⟩ n F h m v:=
 b0I ht hp hs ex (c0S henc hx o v hv)
theorem b5H{ys:Lv}(h:ys.all (·.oneCell')=true):∀u∈ys,u.oneCell'=true:=by simpa using h
theorem b7P{α:Type}{enc:α->Lv}(h:∀x,(enc x).all (·.oneCell')=true)(l:List α):∀u∈fl enc l,u.oneCell'=true:=by intro u hu;simp only[fl,List.mem_flatMap]at hu;obtain⟨x,_,hx⟩:=hu;exact b5H (h x) u hx
def eqL{α:Type}(e:α->α->Bool):List α->List α->Bool
 | [],[]=>true
 |x::xs,y::ys=>e x y&&eqL e xs ys
 |_,_=>false
theorem U5{α:Type}(e:α->α->Bool):∀(xs ys:List α),xs.length≠ys.length->eqL e xs ys=false
 | [],[],h=>absurd rfl h
 | [],_::_,_=>rfl
 |_::_,[],_=>rfl
 |x::xs,y::ys,h=>by rw[eqL,U5 e xs ys (by simpa using h),zB]
theorem Q9{α:Type}(e:α->α->Bool){xs ys:List α}{k:Nat}{x y:α}(hx:xs[k]?=some x)(hy:ys[k]?=some y):eqL e (xs.drop k) (ys.drop k)=(e x y&&eqL e (xs.drop (k+1)) (ys.drop (k+1))):=by obtain⟨h1,rfl⟩:=qd.1 hx;obtain⟨h2,rfl⟩:=qd.1 hy;rw[qq h1,qq h2,eqL]
theorem b2v{α:Type}{e:α->α->Bool}(he:∀x y,e x y=true↔x=y):∀{xs ys:List α},eqL e xs ys=true↔xs=ys
 | [],[]=>by simp[eqL]
 | [],_::_=>by simp[eqL]
 |_::_,[]=>by simp[eqL]
 |x::xs,y::ys=>by simp[eqL,he,b2v he]
def b5h{α:Type}(enc:α->Lv)(e sz:Nat)(h:Lr)(xs:List α):Value->Lr->Prop:=λv h'=>∃a c k,k=xs.length/\v=.slice a k c/\h'=.row (.slice a k c) e sz k (fl enc xs)::h
theorem b7X{x i:Operand}{t e len:Nat}{b off sz q:Nat}{k:IntKind}{j:Int}(ht:P.underlying t=some (.array len e))(hsz:(P.info? e).map (·.size)=some sz)
 (ex:Ev n F x (.pointer (some ⟨b,off,none⟩))) (ei:Ev n F i (.int k j)) (hj:j=(q:Int)) (hq:q<len) :
 PO P ⟨dst,.indexAddr t x i,ty,pos,after,g⟩ n F h m (.pointer (some ⟨b,off+q*sz,none⟩)):=.mk λc w ha st=>by
 subst hj;cases hi:P.info? e with
 |none=>simp[hi]at hsz
 |some i0=>
  have e1:i0.size=sz:=by simpa [hi]using hsz
  have e2:(q:Int)<len:=by omega
  simp[execOp,ex c ha,ei c ha,Instr.indexAt,asIntOf,Instr.sureAddr,run_underlying ht,sizeOf,typeInfo,hi,e1,hq,Addr.add_lit]
theorem a5o{t e len sz:Nat}{ps:List (Nat×Operand)}{vs:List (Nat×Value)}{z:Value}{zs cs:Lv}(ht:P.underlying t=some (.array len e))(hsz:(P.info? e).map (·.size)=some sz)
 (hz:(P.info? t).bind (·.zero)=some z) (hzs:W4 z=some zs) (ev:EvP n F ps vs) (hf:a4I (λi=>some (i*sz,sz)) zs vs=some cs):PO P ⟨dst,.build t ps.toArray,ty,pos,after,g⟩ n F h m (.agg cs.toArray):=.mk λf w hf' _=>by
 have hfill:=a1C hf;have em:(ps.toArray.map λ(i,x)=>(i,f.eval x))=vs.toArray:=by rw[List.map_toArray];exact congrArg List.toArray (ev.map hf')
 have hzc:z.cells=zs.toArray:=by rw[<-P4 hzs]
 simp only[execOp];rw[em];have hrun:(Instr.build t vs.toArray).run P w=.ok (.agg cs.toArray) w:=by
  cases hi:P.info? t with
  |none=>simp[hi]at hz
  |some i=>
   cases hi2:P.info? e with
   |none=>simp[hi2]at hsz
   |some i2=>
    have hz':i.zero=some z:=by simpa [hi]using hz
    have hs':i2.size=sz:=by simpa [hi2]using hsz
    simp only[Instr.build,zeroValue,sizeOf,typeInfo,Sem.run_bind,run_program,Result.andThen_ok,hi,hi2,Sem.run_pure,hz',run_underlying ht,hs',hzc];simp only[hfill];rfl
 simp[hrun]
theorem b4S{x:Operand}{t e len:Nat}{b sz:Nat}(ht:P.underlying t=some (.array len e))(hsz:(P.info? e).map (·.size)=some sz)(h0:0<len)
 (ex:Ev n F x (.pointer (some ⟨b,0,none⟩))):PO P ⟨dst,.slice t x none none none,ty,pos,after,g⟩ n F h m (.slice (some ⟨b,0,none⟩) len len):=.mk λc w ha st=>by
 cases hi:P.info? e with
 |none=>simp[hi]at hsz
 |some i0=>
  have h1:len≠0:=by omega
  simp[execOp,ex c ha,Instr.sliceAt,Instr.sureAddr,run_underlying ht,Instr.sliceBounds,sizeOf,typeInfo,hi,Addr.add_lit]
theorem b8L{x y:Operand}{t:TypeId}{b off:Nat}{cs:Lv}{e:TypeId}{v:Value}(hq:(P.info? t).map (·.size)=some 1)(ex:Ev n F x (.pointer (some ⟨b,off,none⟩)))(ey:Ev n F y v)
 (hvs:W4 v=some [v]) (h1:v.oneCell'=true) (hl:off<cs.length)
 (u:Upd h (.pt b (.cells cs.toArray e (0,0))) (.pt b (.cells (cs.set off v).toArray e (0,0))) h') (k:WL P ops Q n rest F h' m) :
 WL P ops Q n (⟨none,.store t x y,ty,pos,after,none⟩::rest) F h m:=by
 refine b1n (vs:=[v]) (cs:=cs) (e:=e) hq ex ey (P4 hvs) (by simpa using h1) hl ?_ k;have:cs.take off++[v]++cs.drop (off+[v].length)=cs.set off v:=by rw[List.set_eq_take_append_cons_drop,if_pos hl];simp
 rw[this];exact u
theorem c7q{l:Lo}{b:Nat}{cs cs':Lv}{e:TypeId}{fz:Nat×Nat}(he:cs=cs')(u:Upd h (.pt b (.cells cs.toArray e fz)) (.pt b (.cells cs'.toArray e fz)) h')(k:WL P ops Q n l F h' m):WL P ops Q n l F h m:=
 WL.conv u rfl (λw hw=>by subst he;exact hw) k
theorem b6B{x y:Operand}{t e:TypeId}{sz by_ l cap k c l':Nat}{a b:Oa}{xs ys zs:Lv}{hq:Value->Lr}(E:EL P t e sz by_)(ex:Ev n F x (.slice a l cap))(ey:Ev n F y (.slice b k c))
 (rd:Rd m h b k c sz ys) (h1:∀u∈ys,u.oneCell'=true) (hl:l+k=l') (hz:xs++ys=zs) (h63:l'<=9223372036854775807) (hbytes:l'*by_<=140737488355328)
 (u:∀v',Upd h (.row (.slice a l cap) e sz l xs) (.row v' e sz l' zs) (hq v')) (hd:d<n.num) (kk:∀a' cap',WL P ops Q n rest ((d,.slice a' l' cap')::F) (hq (.slice a' l' cap')) m) :
 WL P ops Q n (⟨some d,.call ⟨.builtin .append,#[x,y],#[t,t]⟩,ty,pos,after,none⟩::rest) F h m:=by
 subst hl hz;exact WL.append E ex ey rd h1 h63 hbytes u hd kk
theorem WL.val{l:Lo}{d:Nat}{v v':Value}(e:v=v')(k:WL P ops Q n l ((d,v')::F) h m):WL P ops Q n l ((d,v)::F) h m:=e▸k
theorem Sub.app{F A B:Fm}(ha:Sub F A)(hb:Sub F B):Sub F (A++B):=by
 induction ha with
 |nil=>exact hb
 |cons h _ ih=>exact .cons h ih
theorem Sub.ofKeep{F:Fm}:∀{ts:List Nat}{F':Fm},a3A F ts=some F'->Sub F F'
 | [],F',h=>by simp only[a3A,qs]at h;subst h;exact .nil
 |s::ts,F',h=>by
  simp only[a3A]at h;cases h2:a3A F ts with
  |none=>simp[h2]at h
  |some r=>
   cases h1:Eng.look F s with
   |none=>simp only[h1,h2,qs]at h;subst h;exact Sub.ofKeep h2
   |some u=>simp only[h1,h2,qs]at h;subst h;exact .cons h1 (Sub.ofKeep h2)
def b9R:Fm->Fm->Option Fm
 | [],r=>some r
 |x::l,r=>match b9R l r with
  |some t=>some (x::t)
  |none=>none
theorem b7C:∀{l r t:Fm},b9R l r=some t->l++r=t
 | [],r,t,h=>by simp only[b9R,qs]at h;exact h
 |x::l,r,t,h=>by
  simp only[b9R]at h;cases h1:b9R l r with
  |none=>simp[h1]at h
  |some q=>simp only[h1,qs]at h;subst h;simp[b7C h1]
theorem A9{c:Code}{A B G:Fm}(hG:b9R A B=some G)(k:WC P c Q n G h m):WC P c Q n (A++B) h m:=b7C hG▸k
theorem c3Q{c:Code}(inv:List Nat){Fi:Fm}(hk:a3A F inv=some Fi)(J:Nat->Fm->Lr->Prop)(μ:Nat)(F0:Fm)(hsub:Sub F F0){h0:Lr}(hh:h0.Sublist h)(hJ:J μ F0 h0)
 (round:∀μ F' h',J μ F' h'->WC P c (Exit.then (λa w=>∃μ' F'' h'',μ'<μ/\J μ' F'' h''/\Fr n (F''++Fi) a/\St m h'' w) Q) n (F'++Fi) h' m) :
 WC P (.loop c) Q n F h m:=by
 refine WC.drop hh (WC.loop (λμ G h' m'=>∃F',G=F'++Fi/\J μ F' h'/\m'=m) μ (F0++Fi) (hsub.app (Sub.ofKeep hk)) ⟨F0,rfl,hJ,rfl⟩ ?_);rintro μ G h' m' ⟨F',rfl,hJ,rfl⟩;refine .mk λa w ha hs=>wpIn_mono ((round μ F' h' hJ).e a w ha hs) λe a' w' hq=>?_
 cases e with
 |normal=>obtain⟨μ',F'',h'',hlt,hJ',hf,hst⟩:=hq;exact⟨μ',F''++Fi,h'',m',hlt,⟨F'',rfl,hJ',rfl⟩,hf,hst⟩
 |_=>exact hq
theorem b9C{J:Nat->Fm->Lr->Prop}{Fi:Fm}{μ:Nat}(μ':Nat)(F'':Fm){h'':Lr}(hlt:μ'<μ)(hs:Sub F F'')(hi:Sub F Fi)(hh:h''.Sublist h)(hJ:J μ' F'' h'') :
 ∀a w,Fr n F a->St m h w->∃μ' F'' h'',μ'<μ/\J μ' F'' h''/\Fr n (F''++Fi) a/\St m h'' w:=
 λ_ _ ha st=>⟨μ',F'',h'',hlt,hJ,ha.sub (hs.app hi).look,st.sub hh⟩
theorem Sub.consE{F r:Fm}{t:Nat}{u v:Value}(hl:Eng.look F t=some u)(e:u=v)(k:Sub F r):Sub F ((t,v)::r):=.cons (e▸hl) k
theorem d0D{J:Fm->Lr->Prop}(F':Fm){h'':Lr}(hs:Sub F F')(hh:h''.Sublist h)(hJ:J F' h'') :
 ∀a w,Fr n F a->St m h w->∃F' h',J F' h'/\Fr n F' a/\St m h' w:=
 λ_ _ ha st=>⟨F',h'',hJ,ha.sub hs.look,st.sub hh⟩
theorem D6{x y:Code}{K:Pw}(hK:∀ds F h m,WC P y Q { n with ds:=ds } F h m->∀a w,Fr { n with ds:=ds } F a->St m h w->K a w)(inv:List Nat){Fi:Fm}(hk:a3A F inv=some Fi)(J:Fm->Lr->Prop)
 (k1:WC P x (Exit.then (λa w=>∃F' h',J F' h'/\Fr n (F'++Fi) a/\St m h' w) Q) n F h m)
 (k2:∀F' h',J F' h'->WC P y Q n (F'++Fi) h' m):WC P x (Exit.then K Q) n F h m:=.mk λa w ha hs=>by
 have _:=hk;refine wpIn_mono (k1.e a w ha hs) λe a' w' hq=>?_
 cases e with
 |normal=>obtain⟨F',h',hJ,hf,hst⟩:=hq;exact hK n.ds _ _ _ (k2 F' h' hJ) a' w' hf hst
 |_=>exact hq
theorem b0b{J:Fm->Lr->Prop}{Fi:Fm}(F'':Fm){h'':Lr}(hs:Sub F F'')(hi:Sub F Fi)(hh:h''.Sublist h)(hJ:J F'' h'') :
 ∀a w,Fr n F a->St m h w->∃F' h',J F' h'/\Fr n (F'++Fi) a/\St m h' w:=
 λ_ _ ha st=>⟨F'',h'',hJ,ha.sub (hs.app hi).look,st.sub hh⟩
end
end Go.Eng
namespace Go.Eng
open Go Go.RowKit Go.ChangeShapes Go.WideShapes Go.ChangeAt Go.Joins
theorem a4U{α β:Type}{f:α->Option β}:∀{l:List α}{xs:List β},l.mapM f=some xs->xs.length=l.length/\∀(i:Nat)(a:α),l[i]?=some a->∃y,xs[i]?=some y/\f a=some y
 | [],xs,h=>by simp at h;subst h;simp
 |b::l,xs,h=>by
  simp only[List.mapM_cons]at h;cases h1:f b with
  |none=>simp[h1]at h
  |some y=>
   cases h2:l.mapM f with
   |none=>simp[h1,h2]at h
   |some ys=>
    simp[h1,h2]at h;subst h;obtain⟨e,k⟩:=a4U h2;refine⟨by simp[e],λi a hi=>?_⟩;cases i with
    |zero=>simp at hi;subst hi;exact⟨y,rfl,h1⟩
    |succ i=>simpa using k i a (by simpa using hi)
section
variable {H:Type}{enc:TypeId×Value->H}{P:Program}{W:World}{held:Bool}{V8:Nat}{t:TypeId}{cs:Lv}{x:DataW H×List MemPlace}
abbrev RdT(enc:TypeId×Value->H)(P:Program)(W:World)(held:Bool)(V8:Nat)(t:TypeId)(cs:Lv)(x:DataW H×List MemPlace):Prop:=DataW.trod enc P W 0 (λ_=>true) held V8 t cs=some x
theorem b6v(h:RdT enc P W held V8 t cs x):∃f,V8=f+1:=by
 cases V8 with
 |zero=>simp[RdT,DataW.trod]at h
 |succ f=>exact⟨f,rfl⟩
theorem c3I{k:IntKind}(ht:P.underlying t=some (.int k))(h:RdT enc P W held V8 t cs x):∃n,cs=[.int k n]/\(Lit.int k n).wf=true:=by obtain⟨f,rfl⟩:=b6v h;unfold RdT DataW.trod at h;rw[ht]at h;split at h<;>simp_all
theorem a5N{a:Addr}{n:Nat}{cs:Lv}(h:W.cells? 0 a n=some cs):cs.length=n/\∀j v,cs[j]?=some v->W.cell? (a.add j)=some v:=by
 unfold World.cells? at h;rw[if_pos (qi _)]at h;obtain⟨h1,h2⟩:=a4U h;rw[List.length_range]at h1;refine⟨h1,λj v hj=>?_⟩;have hlt:j<n:=by rw[<-h1];exact(qd.1 hj).1
 obtain⟨y,e1,e2⟩:=h2 j j (by simp[hlt]);rw[hj]at e1;cases e1;exact e2
theorem c1a{e:TypeId}(ht:P.underlying t=some (.slice e))(h:RdT enc P W held V8 t cs x) :
 cs=[.slice none 0 0]\/∃a n c f,cs=[.slice (some a) n c]/\V8=f+1/\n<=c/\c<=maxLen/\∀i,i<c->∃ys y,W.cells? 0 (a.add (i*P.cellsOf e)) (P.cellsOf e)=some ys/\RdT enc P W held f e ys y:=by
 rcases DataW.trod_slice ht h with⟨rfl,_⟩|⟨a,n,c,el,rs,f,rfl,rfl,_,_,h1,h2,h3,h4,h5,_⟩
 ·exact .inl rfl
 ·refine .inr ⟨a,n,c,f,rfl,rfl,h1,h2,λi hi=>?_⟩
  obtain⟨h6,h7⟩:=h5 rfl;have key:∀i (z:DataW H×List MemPlace),(W.cells? 0 (a.add (i*P.cellsOf e)) (P.cellsOf e)).bind (DataW.trod enc P W 0 (λ_=>true) held f e)=some z->∃ys y,W.cells? 0 (a.add (i*P.cellsOf e)) (P.cellsOf e)=some ys/\RdT enc P W held f e ys y:=by
   intro i z hi;cases hc:W.cells? 0 (a.add (i*P.cellsOf e)) (P.cellsOf e)with
   |none=>rw[hc]at hi;cases hi
   |some ys=>rw[hc]at hi;exact⟨ys,z,rfl,hi⟩
  rcases ze i n with h'|h'
  ·exact key i _ ((h4 i h').trans (qk (by omega)))
  ·have:=h7 (i-n) (by omega)
   rw[show n+(i-n)=i by omega]at this;exact key i _ (this.trans (qk (by omega)))
theorem a5A{α:Type}{p:Nat->α->Prop}:∀n,(∀i,i<n->∃x,p i x)->∃l:List α,l.length=n/\∀i x,l[i]?=some x->p i x
 |0,_=>⟨[],rfl,λi x h=>by simp at h⟩
 |n+1,h=>by
  obtain⟨l,h1,h2⟩:=a5A n λi hi=>h i (by omega)
  obtain⟨x,hx⟩:=h n (by omega);refine⟨l++[x],by simp[h1],λi y hi=>?_⟩;rcases ze i n with h'|h'
  ·rw[zt (by omega)]at hi;exact h2 i y hi
  ·have:i=n:=by
    have:=(qd.1 hi).1;simp at this;omega
   subst this;rw[<-h1]at hi;simp at hi;subst hi;rw[h1]at *;exact hx
theorem c8O{α:Type}{Pr:α->Prop}{enc':α->Lv}{e sz:Nat}(ht:P.underlying t=some (.slice e))(hsz:P.cellsOf e=sz)(hpos:0<sz)(henc:∀x,(enc' x).length=sz)
 (hdec:∀f ys y,RdT enc P W held f e ys y->∃z,ys=enc' z/\Pr z) (h:RdT enc P W held V8 t cs x) :
 ∃a n c l,cs=[.slice a n c]/\l.length=n/\Sl (a1X W) a n c sz (fl enc' l)/\∀z∈l,Pr z:=by
 rcases c1a ht h with rfl|⟨a,n,c,f,rfl,rfl,h1,h2,h3⟩
 ·exact⟨none,0,0,[],rfl,rfl,Sl.nil _ _,λ_ h=>by cases h⟩
 ·rw[hsz]at h3
  have h4:∀i,i<n->∃z,W.cells? 0 (a.add (i*sz)) sz=some (enc' z)/\Pr z:=λi hi=>by
   obtain⟨ys,y,e1,e2⟩:=h3 i (by omega);obtain⟨z,rfl,hz⟩:=hdec f ys y e2;exact⟨z,e1,hz⟩
  obtain⟨l,hl,hp⟩:=a5A n h4;refine⟨some a,n,c,l,rfl,hl,⟨by rw[a6y henc,hl],h1,by unfold maxLen at h2;omega,λj v hj=>?_⟩,λz hz=>?_⟩
  ·have hjl:j<n*sz:=by have:=(qd.1 hj).1;rwa [a6y henc,hl]at this
   have hq:j/sz<n:=Nat.div_lt_of_lt_mul (by rwa [ji]at hjl);obtain⟨z,hz⟩:=A8 (l:=l) (k:=j/sz) (by omega);have hm:j%sz<sz:=Nat.mod_lt _ hpos;have hj2:(enc' z)[j%sz]?=some v:=by have:=a6Y (sz:=sz) enc' henc l (j/sz) (j%sz) hm;rw[ji,Nat.div_add_mod,hz]at this;unfold fl at hj;rw[hj]at this;exact this.symm
   obtain⟨hc,_⟩:=hp _ z hz;have hcell:=(a5N hc).2 _ v hj2;have hsp:a.spot=none:=by
    obtain⟨z0,hz0⟩:=A8 (l:=l) (k:=0) (by rw[hl];exact Nat.lt_of_le_of_lt (qi _) hq);obtain⟨v0,hv0⟩:=A8 (l:=enc' z0) (k:=0) (by rw[henc];omega);have h0:=(a5N (hp _ z0 hz0).1).2 _ v0 hv0;have e0:(a.add (0*sz)).add 0=a:=by simp[Addr.add]
    rw[e0]at h0;unfold World.cell? at h0;split at h0
    ·cases hs:a.spot with
     |none=>rfl
     |some q=>rw[hs]at h0;cases h0
    ·cases h0
   obtain⟨b,off,sp⟩:=a;cases hsp;refine⟨b,off,rfl,?_⟩;rw[Addr.add_lit,Addr.add_lit,jd,show j/sz*sz+j%sz=j by rw[ji,Nat.div_add_mod]]at hcell;exact a0H hcell
  ·obtain⟨i,hi⟩:=List.getElem?_of_mem hz
   exact(hp i z hi).2
end
end Go.Eng
namespace Go.Eng
open Go Go.RowKit
structure MapI(es:Array MapEntry)(ks:List Int):Prop where
 a:∀e∈es.toList,∃n,e.key=.int .i64 n/\e.val=.bool true/\n∈ks
 b:∀n∈ks,∃e∈es.toList,e.key=.int .i64 n
theorem MapI.nil:MapI #[] []:=⟨λe h=>by simp at h,λn h=>by cases h⟩
section
variable {P:Program}{ops:Array Oper}{Q:Exit->Pw}{n:Cx}{F:Fm}{h h':Lr}{m:View}{rest:Lo}
variable {ty:TypeId}{pos:String}{after:Array Edge}{dst:Option Tmp}{g:Option (Nat×Bool)}{d:Nat}
theorem St.setObj{w:World}{b:Nat}{o o':Obj}(s:St m h w)(u:Upd h (.pt b o) (.pt b o') h'):St m h' { w with heap:=w.heap.setIfInBounds b o' }:=by
 have hb:w.heap[b]?=some o:=s.ok _ u.mem;have hlt:=a0F hb;refine s.upd u rfl rfl rfl (λk _ hk=>?_) ?_ (λk hk=>.inl hk)
 ·have:b≠k:=λe=>hk (by rw[e];rfl)
  simp[zk this]
 ·show({ w with heap:=w.heap.setIfInBounds b o' }:World).heap[b]?=some o'
  simp[hlt]
theorem WL.makeMap{t:TypeId}(hd:d<n.num)(k:∀b,WL P ops Q n rest ((d,.map (some b))::F) (.pt b (.map #[] 0)::h) m) :
 WL P ops Q n (⟨some d,.makeMap t none,ty,pos,after,none⟩::rest) F h m:=.mk λa w ha hs=>by
 have hrun:(execOp a.eval ⟨some d,.makeMap t none,ty,pos,after,none⟩).run P w=.ok (.value (.map (some w.heap.size))) (w.alloc (.map #[] 0)):=by simp[execOp,Instr.makeMap]
 exact G7 rfl (O5 hrun (k _ _ _ (ha.put hd _) (hs.alloc _)))
end
end Go.Eng
namespace Go.Eng
open Go Go.RowKit Go.ChangeShapes Go.WideShapes Go.ChangeAt Go.Joins
theorem CT.ofCalls{P:Program}{f:FuncId}{args:Lv}{h:Lr}{m:View}{v:Value}(he:∀as w,(callFunc f as).run P w=.ok (.enter f as) w)
 (hc:∀w,St m h w->Calls P f args.toArray w λe w'=>e=.returned v/\w'=w):CT P f args h m (A5 h v):=
 ⟨he,λw st=>Calls.mono (hc w st) (by rintro e w' ⟨rfl,rfl⟩;exact⟨v,m,h,rfl,View.le.refl m,st,rfl,rfl⟩)⟩
theorem CT.argsE{P:Program}{f:FuncId}{args args':Lv}{h:Lr}{m:View}{R:Value->View->Lr->Prop}(e:args=args')(c:CT P f args' h m R):CT P f args h m R:=e▸c
theorem X9{P:Program}{Q:Exit->Pw}{n:Cx}{F:Fm}{h h':Lr}{m:View}{c:Code}(e:h=h')(k:WC P c Q n F h' m):WC P c Q n F h m:=e▸k
theorem a4q{P:Program}{ops:Array Oper}{Q:Exit->Pw}{n:Cx}{F:Fm}{h h':Lr}{m:View}{l:Lo}(e:h=h')(k:WL P ops Q n l F h' m):WL P ops Q n l F h m:=e▸k
section
variable {P:Program}{n:Cx}{F:Fm}{h:Lr}{m:View}{ty:TypeId}{pos:String}{after:Array Edge}{dst:Option Nat}{g:Option (Nat×Bool)}
theorem D0{α:Type}{en:α->Lv}{l:List α}{q:Nat}{z:α}{x:Operand}{t i o len cap sz:Nat}{fs:Array Field}{f:Field}{a:Oa}(ht:P.underlying t=some (.struct fs))(hf:fs[i]?=some f)(hz:P.cellsOf f.type≠0)
 (henc:∀x,(en x).length=sz) (h0:0<sz) (hs:Rd m h a len cap sz (fl en l)) (hx:l[q]?=some z) (ex:Ev n F x (.pointer (elt a o))) :
 PO P ⟨dst,.fieldAddr t x i,ty,pos,after,g⟩ n F h m (.pointer (elt a (o+f.offset))):=
 b9l ht hf hz hs (j:=0) (by
  rw[a6y henc];have:0<l.length:=by
   cases l with
   |nil=>simp at hx
   |cons y l=>simp
  exact Nat.mul_pos this h0) ex
theorem PO.max{x y:Operand}{i j:Int}{t:TypeId}(ex:Ev n F x (.int .i64 i))(ey:Ev n F y (.int .i64 j)) :
 PO P ⟨dst,.call ⟨.builtin .max,#[x,y],#[t,t]⟩,ty,pos,after,g⟩ n F h m (.int .i64 (if i<j then j else i)):=.mk λb w ha _=>by
 simp[execOp,resolve,invoke,builtin,ex b ha,ey b ha,run_max_int2]
theorem a7w{x i:Operand}{t e len sz:Nat}{u:TypeDesc}{k:IntKind}{j:Int}{q:Nat}{cs vs:Lv}(ht:P.underlying t=some (.array len e))(he:P.underlying e=some u)(hp:N5 u=false)
 (hsz:(P.info? e).map (·.size)=some sz) (ex:Ev n F x (.agg cs.toArray)) (ei:Ev n F i (.int k j)) (hj:j=(q:Int)) (hq:q<len) (hv:(cs.drop (q*sz)).take sz=vs) :
 PO P ⟨dst,.index t x i,ty,pos,after,g⟩ n F h m (.agg vs.toArray):=.mk λb w ha _=>by
 subst hj hv;have e1:¬len<=q:=by omega
 have hs:(sizeOf e).run P w=.ok sz w:=by
  cases hi:P.info? e with
  |none=>rw[hi]at hsz;cases hsz
  |some y=>rw[hi]at hsz;simp at hsz;simp[sizeOf,typeInfo,hi,hsz]
 simp[execOp,ex b ha,ei b ha,Instr.index,asIntOf,run_underlying ht,part,a3y w he hp,hs];exact λhh=>absurd hh e1
end
section
variable {H:Type}{enc:TypeId×Value->H}{P:Program}{W:World}{sp:Nat->Bool}{held:Bool}{V8:Nat}{t:TypeId}{cs:Lv}
theorem a6L{k k':IntKind}{z:Int}{p:List MemPlace}(ht:P.underlying t=some (.int k))(h:DataW.trod enc P W 0 sp held V8 t cs=some (.lit (.int k' z),p)):cs=[.int k z]:=by
 cases V8 with
 |zero=>simp[DataW.trod]at h
 |succ f=>unfold DataW.trod at h;rw[ht]at h;split at h<;>simp_all
theorem c3U{l:List UInt8}{p:List MemPlace}(ht:P.underlying t=some .string)(h:DataW.trod enc P W 0 sp held V8 t cs=some (.lit (.string l),p)):cs=[str l]:=by
 cases V8 with
 |zero=>simp[DataW.trod]at h
 |succ f=>
  unfold DataW.trod at h;rw[ht]at h;split at h<;>simp_all
  obtain⟨-,rfl,-⟩:=h;simp
theorem a8l{fs:Array Field}{ds:List (DataW H)}{p:List MemPlace}(ht:P.underlying t=some (.struct fs))(h:DataW.trod enc P W 0 sp held V8 t cs=some (.agg ds,p)) :
 ∃f,∀(i:Nat)(q:Field)(d:DataW H),fs[i]?=some q->ds[i]?=some d->∃p',DataW.trod enc P W 0 sp held f q.type ((cs.drop q.offset).take (P.cellsOf q.type))=some (d,p'):=by
 cases V8 with
 |zero=>simp[DataW.trod]at h
 |succ f=>
  unfold DataW.trod at h;rw[ht]at h;split at h<;>simp_all
  obtain⟨-,xs,h2,rfl,-⟩:=h;refine⟨f,λi q d hq hd=>?_⟩;obtain⟨y,e1,e2⟩:=(a4U h2).2 i q (by simpa using hq);rw[jh,e1]at hd;simp at hd;subst hd;exact⟨y.2,e2⟩
theorem b5N{len e:Nat}{ds:List (DataW H)}{p:List MemPlace}(ht:P.underlying t=some (.array len e))(h:DataW.trod enc P W 0 sp held V8 t cs=some (.agg ds,p)) :
 ∃f,∀(i:Nat)(d:DataW H),i<len->ds[i]?=some d->∃p',DataW.trod enc P W 0 sp held f e ((cs.drop (i*P.cellsOf e)).take (P.cellsOf e))=some (d,p'):=by
 cases V8 with
 |zero=>simp[DataW.trod]at h
 |succ f=>
  unfold DataW.trod at h;rw[ht]at h;split at h<;>simp_all
  obtain⟨-,xs,h2,rfl,-⟩:=h;refine⟨f,λi d hi hd=>?_⟩;obtain⟨y,e1,e2⟩:=(a4U h2).2 i i (by simp[hi]);rw[jh,e1]at hd;simp at hd;subst hd;exact⟨y.2,e2⟩
theorem cell_of_cut{l:Lv}{a k:Nat}{v:Value}(h:(l.drop a).take k=[v]):l[a]?=some v:=by
 have:((l.drop a).take k)[0]?=some v:=by rw[h];rfl
 cases k with
 |zero=>simp at h
 |succ k=>simpa using this
end
theorem a5n{H:Type}{enc:TypeId×Value->H}{a:Assume}{C:Checked}{os:Os}{f:FuncId}{fn:Func}{s:ChangeSpec}{conds:List PathCond}{apart fresh handsOn again:Bool}{laid:List (String×DataW Unit)}
 (own:ownKnob C.prog.godebug=none) (started:os.Started) (noInit:C.prog.inits.idxOf? f=none) (hfn:C.prog.funcs[f]?=some fn)
 (witness:∃(w:World)(tape:Tape)(i:Input),w.os=os/\(w.forCall tape i).Shaped C.prog/\i.vars=[]/\Input.okWide C.prog (w.forCall tape i) .any w.heap.size f i /\
  ((s.pre enc C.prog fn conds apart (w.forCall tape i).memory i.args/\laidMet C.prog laid (w.forCall tape i).memory)/\sizedMet enc C.prog fn (OpenSpec.ofChange s) apart (w.forCall tape i).memory i.args)/\a.holds C.prog (lone (Frame.enter C.prog f i.args .normal) [] (w.forCall tape i)))
 (contract:∀(W:World)(base:Nat)(args:Array Value)(ds gs:List (DataW H))(before:List MemPlace),
  (∀(j:Nat) t v,fn.params[j]?=some t->args[j]?=some v->Value.okWide C.prog W .any base t v) ->
  DataW.Whole enc C.prog fn.params.toList s.vars apart W args.toList ds gs before ->
  (DataW.weightsEach C.prog (fn.params.toList++s.plain.varTypes C.prog) (ds++gs)).all (·<=reachBytes)=true->laidMet C.prog laid W->W.ShapedOpen C.prog ->
  Calls C.prog f args W λe W'=>∃v,e=.returned v/\s.post enc C.prog fn apart fresh handsOn again W args v W') :
 ReturnsInHanded a C os f .any (λw args=>(s.pre enc C.prog fn conds apart w args/\laidMet C.prog laid w)/\sizedMet enc C.prog fn (OpenSpec.ofChange s) apart w args) (s.post enc C.prog fn apart fresh handsOn again):=by
 refine returnsInHanded_of_calls own started noInit witness λw tape i _ hsh _ hok hpre _=>?_;obtain⟨_,_,_,fn',hfn',_,_,_,_,hval⟩:=hok;cases qM (hfn'.symm.trans hfn);obtain⟨⟨⟨ds,gs,before,hw,_⟩,hl⟩,hz⟩:=hpre;refine Calls.mono (contract (w.forCall tape i) w.heap.size i.args ds gs before hval (DataW.Whole.of_heap (w':=w.forCall tape i) (by rfl) hw) (hz.weights hw) (laidMet.of_heap (w':=w.forCall tape i) (by rfl) hl) hsh) ?_;rintro e W' ⟨v,rfl,hp⟩;exact ChangeSpec.post_blind hp
end Go.Eng
namespace Go.Eng
open Go
section
variable {P:Program}{ops:Array Oper}{Q:Exit->Pw}{n:Cx}{F:Fm}{h h':Lr}{m:View}{rest:Lo}
variable {ty:TypeId}{pos:String}{after:Array Edge}{d:Nat}{v:Value}
theorem CT.perm{f:FuncId}{args:Lv}{h1 h2 h1' h2':Lr}(hp:h1.Perm h2)(c:CT P f args h2 m (A5 h2' v))(hp':h2'.Perm h1'):CT P f args h1 m (A5 h1' v):=
 ⟨c.enter,λw st=>Calls.mono (c.calls w (st.perm hp)) (by rintro e w' ⟨v',m',h',rfl,hle,hst,rfl,rfl⟩;exact⟨v',m',h1',rfl,hle,hst.perm hp',rfl,rfl⟩)⟩
theorem CT.outE{f:FuncId}{args:Lv}{h1 h2:Lr}(e:h1=h2)(c:CT P f args h m (A5 h1 v)):CT P f args h m (A5 h2 v):=e▸c
theorem CT.frame{f:FuncId}{args:Lv}{fr hp hp' hs:Lr}(c:CT P f args (hp++(fr++hs)) m (A5 (hp'++(fr++hs)) v)):CT P f args (fr++(hp++hs)) m (A5 (fr++(hp'++hs)) v):=
 CT.perm (zT fr hp hs) c (zT hp' fr hs)
theorem b1V{fr h:Lr}(x5 x3 x2 x1:Res):(fr++([x3,x2]++(x5::x1::h))).Perm ([x5,x3,x2,x1]++(fr++h)):=by refine(zT fr [x3,x2] (x5::x1::h)).trans ?_;refine((zT fr [x5,x1] h).append_left [x3,x2]).trans ?_;exact qL (l₁:=[x3,x2])
theorem a60{f:Operand}{args:List Operand}{tys:Array TypeId}{vs first cap:Lv}{q:FuncId}{gd:Nat×Bool}{c:Bool}(hg:GU ops n F gd c)
 (p:c=true->Ev n F f (.func (.func q) first.toArray cap.toArray)/\Evs n F args vs/\CT P q (first++vs++cap) h m (A5 h' v)) (h0:c=false->h'=h) (hd:d<n.num)
 (k:WL P ops Q n rest ((d,gv c v)::F) h' m):WL P ops Q n (⟨some d,.call ⟨.value f,args.toArray,tys⟩,ty,pos,after,some gd⟩::rest) F h m:=by
 cases c with
 |false=>cases h0 rfl;exact c0h hg rfl hd k
 |true=>obtain⟨ef,ea,ct⟩:=p rfl;refine b6U hg rfl (F9 ef ea ct hd ?_);rintro _ _ ⟨rfl,rfl⟩;exact k
theorem b94{eff:List Nat}{t:Tl}{hs hp hp':Lr}{i:Nat}{s:Tr}{f:Operand}{args:List Operand}{tys:Array TypeId}{vs first cap:Lv}{q:FuncId}{gd:Nat×Bool}{c:Bool}
 (ho:ops[i]?=some ⟨some d,.call ⟨.value f,args.toArray,tys⟩,ty,pos,after,some gd⟩) (he:eff.contains i=true) (hg:GU ops n F gd c)
 (p:c=true->Ev n F f (.func (.func q) first.toArray cap.toArray)/\Evs n F args vs/\∀fr,CT P q (first++vs++cap) (fr++(hp++hs)) m (A5 (fr++(hp'++hs)) v)) (h0:c=false->hp'=hp) (hd:d<n.num)
 (k:SR P ops Q n eff t hs s ((d,gv c v)::F) hp' m):SR P ops Q n eff t hs (.op i s) F hp m:=⟨_,ho,λx hx=>by cases hx;exact hd,by
 rw[he];refine⟨λfr a w ha st=>?_⟩;have hy:=hg.wanted (dst:=some d) (op:=.call ⟨.value f,args.toArray,tys⟩) (ty:=ty) (pos:=pos) (after:=after) ha;cases c with
 |true=>refine⟨λ_=>?_,λh=>by rw[hy]at h;cases h⟩;obtain⟨ef,ea,ct⟩:=p rfl;rw[Y8 ha ef ea (ct fr).enter];refine Calls.mono ((ct fr).calls w st) ?_;rintro e w' ⟨v',m',h',rfl,hle,hst,rfl,rfl⟩;exact .inl ⟨_,rfl,m,hp',View.le.refl m,hst.back hle,nofun,k.e⟩
 |false=>cases h0 rfl;exact⟨λh=>(by rw[hy]at h;cases h),λ_=>⟨nofun,k.e⟩⟩⟩
section
variable {eff:List Nat}{t:Tl}{hs hp:Lr}{i:Nat}{s:Tr}{op:Op}
theorem b2O(ho:ops[i]?=some ⟨some d,op,ty,pos,after,none⟩)(he:eff.contains i=true)(p:∀fr,PO P ⟨some d,op,ty,pos,after,none⟩ n F (fr++(hp++hs)) m v)(hd:d<n.num)
 (k:SR P ops Q n eff t hs s ((d,v)::F) hp m) (hmk:a4n ⟨some d,op,ty,pos,after,none⟩=false:=by rfl):SR P ops Q n eff t hs (.op i s) F hp m:=⟨_,ho,λx hx=>by cases hx;exact hd,by
 rw[he];cases hr:a6t ⟨some d,op,ty,pos,after,none⟩with
 |true=>exact⟨v,⟨λa w ha st=>⟨λ_=>(p []).e a w ha st,λh=>by simp[Region.wanted]at h⟩⟩,k.e⟩
 |false=>simp only[hmk,zu];refine⟨λfr a w ha st=>⟨λ_=>?_,λh=>by simp[Region.wanted]at h⟩⟩;rw[(p fr).e a w ha st];exact⟨m,hp,View.le.refl m,st,λ_=>zi _,k.e⟩⟩
theorem b0c{dst:Option Nat}{gd:Nat×Bool}:a6t ⟨dst,op,ty,pos,after,some gd⟩=false:=by unfold a6t;split<;>simp_all
theorem b0h{dst:Option Nat}{gd:Nat×Bool}:a4n ⟨dst,op,ty,pos,after,some gd⟩=false:=by unfold a4n;split<;>simp_all
theorem b8d{gd:Nat×Bool}{c:Bool}(ho:ops[i]?=some ⟨some d,op,ty,pos,after,some gd⟩)(he:eff.contains i=true)(hg:GU ops n F gd c)
 (p:c=true->∀fr,PO P ⟨some d,op,ty,pos,after,some gd⟩ n F (fr++(hp++hs)) m v) (hd:d<n.num) (k:SR P ops Q n eff t hs s ((d,gv c v)::F) hp m) :
 SR P ops Q n eff t hs (.op i s) F hp m:=⟨_,ho,λx hx=>by cases hx;exact hd,by
 rw[he];simp only[b0c,b0h,zu];refine⟨λfr a w ha st=>?_⟩;have hy:=hg.wanted (dst:=some d) (op:=op) (ty:=ty) (pos:=pos) (after:=after) ha;cases c with
 |true=>refine⟨λ_=>?_,λh=>by rw[hy]at h;cases h⟩;rw[(p rfl fr).e a w ha st];exact⟨m,hp,View.le.refl m,st,λ_=>zi _,k.e⟩
 |false=>exact⟨λh=>(by rw[hy]at h;cases h),λ_=>⟨λ_=>zi _,k.e⟩⟩⟩
end
end
end Go.Eng
namespace Go.Eng
open Go
section
variable {P:Program}{ops:Array Oper}{Q:Exit->Pw}{n:Cx}{F:Fm}{h h':Lr}{m:View}{rest:Lo}
variable {ty:TypeId}{pos:String}{after:Array Edge}{d:Nat}{v:Value}
theorem Rd.ofPtP{b k cap sz:Nat}{cs zs:Lv}{e:TypeId}{fz:Nat×Nat}(hl:cs.length=k*sz)(hle:k<=cap)(hmx:cap<=9223372036854775807)(hm:Res.pt b (.cells (cs++zs).toArray e fz)∈h):Rd m h (some ⟨b,0,none⟩) k cap sz cs:=
 ⟨hl,hle,hmx,λw st j u hj=>⟨b,0,rfl,by
  rw[st.pt_cell hm,qI];have:=(qd.1 hj).1;simp only[List.getElem?_toArray,zt this];exact hj⟩⟩
theorem a8g{x:Operand}{t0 t e:TypeId}{s:List UInt8}(ht0:P.underlying t0=some .string)(ht:P.underlying t=some (.slice e))(he:P.underlying e=some (.int .u8))(ex:Ev n F x (str s))(hd:d<n.num)(hs:s.length<=9223372036854775807)
 (kk:∀b zs fz cap,s.length<=cap->cap<=9223372036854775807->WL P ops Q n rest ((d,.slice (some ⟨b,0,none⟩) s.length cap)::F) (.pt b (.cells (bv s++zs).toArray e fz)::h) m) :
 WL P ops Q n (⟨some d,.convert t0 t x,ty,pos,after,none⟩::rest) F h m:=.mk λf w ha st=>by
 have hr:=Lib.run_convert_string_bytes (P:=P) w t0 t e ⟨s.toArray⟩ ht0 ht he;have hsz:(⟨s.toArray⟩:ByteArray).size=s.length:=by simp[ByteArray.size]
 rw[hsz]at hr;have hrun:(execOp f.eval ⟨some d,.convert t0 t x,ty,pos,after,none⟩).run P w=.ok (.value (.slice (some ⟨w.heap.size,0,none⟩) s.length (grownCap w s.length 0 e))) (Lib.bytesWorld w e ⟨s.toArray⟩):=by simp[execOp,ex f ha,hr]
 have hC:Lib.bytesCells w e ⟨s.toArray⟩=(bv s++List.replicate (grownCap w s.length 0 e-s.length) (Value.int .u8 0)).toArray:=by unfold Lib.bytesCells;rw[hsz];simp[bv]
 have hnew:(w.drew.alloc (.cells (Lib.bytesCells w e ⟨s.toArray⟩) e)).heap[w.heap.size]?=some (.cells (Lib.bytesCells w e ⟨s.toArray⟩) e (0,0)):=a5Y w.drew _;obtain⟨h1,h2,h3,h4,h5⟩:=b8G _ w.heap.size (Lib.bytesCells w e ⟨s.toArray⟩) e (Lib.bytesCells w e ⟨s.toArray⟩).size hnew;refine G7 rfl (O5 hrun (kk w.heap.size (List.replicate (grownCap w s.length 0 e-s.length) (Value.int .u8 0)) ((Lib.bytesCells w e ⟨s.toArray⟩).size,(Lib.bytesCells w e ⟨s.toArray⟩).size+1) (grownCap w s.length 0 e) (grownCap_ge w s.length 0 e) (grownCap_le_maxLen w s.length 0 e (by unfold maxLen;exact hs)) _ _ (ha.put hd _) ?_))
 have:=(st.drew.alloc (.cells (Lib.bytesCells w e ⟨s.toArray⟩) e)).upd (r':=.pt w.heap.size (.cells (Lib.bytesCells w e ⟨s.toArray⟩) e ((Lib.bytesCells w e ⟨s.toArray⟩).size,(Lib.bytesCells w e ⟨s.toArray⟩).size+1))) Upd.here h3 h4 h5 (λq _ hq=>h2 q (λe=>hq (by rw[e];rfl))) h1 (λb hb=>.inl hb);rw[<-hC];exact this
end
end Go.Eng
namespace Go.Eng
open Go Go.Sort
section
variable {P:Program}{ops:Array Oper}{Q:Exit->Pw}{n:Cx}{F:Fm}{h h':Lr}{m:View}{rest:Lo}{dst:Option Nat}{g:Option (Nat×Bool)}
variable {ty:TypeId}{pos:String}{after:Array Edge}{d:Nat}{v:Value}
theorem SR.val{eff:List Nat}{t:Tl}{hs hp:Lr}{s:Tr}{v':Value}(e:v=v')(k:SR P ops Q n eff t hs s ((d,v')::F) hp m):SR P ops Q n eff t hs s ((d,v)::F) hp m:=e▸k
theorem c3S:∀c,c<128->(Utf8.encode ((c:Nat):Int)).data.toList=[UInt8.ofNat c]:=by decide +kernel
theorem c5j{x:Operand}{k:IntKind}{i:Int}{s t:TypeId}{u:TypeDesc}{c:Nat}(hs:P.underlying s=some u)(ht:P.underlying t=some .string)(ex:Ev n F x (.int k i))(hi:i=(c:Int))(hc:c<128) :
 PO P ⟨dst,.convert s t x,ty,pos,after,g⟩ n F h m (str [UInt8.ofNat c]):=.mk λa w ha _=>by
 subst hi;have e:Utf8.encode ((c:Nat):Int)=⟨[UInt8.ofNat c].toArray⟩:=by have:=c3S c hc;apply ByteArray.ext;apply Array.ext';simpa using this
 simp[execOp,ex a ha,convert,run_underlying hs,run_underlying ht,Conv.intToString,e]
theorem St.wider{w w':World}(s:St m h w)(h1:w'.os=w.os)(h2:w'.output=w.output)(h3:w'.tape=w.tape)(hh:∀b,b<w.heap.size->w'.heap[b]?=w.heap[b]?):St m h w' where
 os:=h1.trans s.os
 out:=h2.trans s.out
 tape:=h3.trans s.tape
 blk b o hb:=by have e:=s.blk b o hb;rw[hh b (a0F e)];exact e
 ok r hr:=Res.ok_of_block (s.ok r hr) λb hb=>hh b (Res.lt (s.ok r hr) b hb)
 nd:=s.nd
 fr:=s.fr
theorem CT.ofGrow{f:FuncId}{args:Lv}(he:∀as w,(callFunc f as).run P w=.ok (.enter f as) w)
 (hc:∀w,St m h w->Calls P f args.toArray w λe w'=>e=.returned v/\∃k os,w'=grow (w.drewN k) os):CT P f args h m (A5 h v):=
 ⟨he,λw st=>Calls.mono (hc w st) (by rintro e w' ⟨rfl,k,os,rfl⟩;exact⟨v,m,h,rfl,View.le.refl m,st.wider rfl rfl rfl (λb hb=>by simp[grow,World.drewN,Array.getElem?_append,hb]),rfl,rfl⟩)⟩
end
end Go.Eng
namespace Go.Eng
open Go
section
variable {H:Type}{enc:TypeId×Value->H}{P:Program}{W:World}{held:Bool}{V8:Nat}{t:TypeId}{cs:Lv}{x:DataW H×List MemPlace}
theorem c4e(ht:P.underlying t=some .string)(h:RdT enc P W held V8 t cs x):∃l:List UInt8,cs=[str l]/\l.length∈x.1.weights P t:=by
 obtain⟨f,rfl⟩:=b6v h;unfold RdT DataW.trod at h;rw[ht]at h;split at h<;>simp_all
 rename_i s;obtain⟨_,rfl⟩:=h;exact⟨s.data.toList,by simp,by simp[DataW.weights]⟩
theorem b6I{fs:Array Field}(ht:P.underlying t=some (.struct fs))(h:RdT enc P W held V8 t cs x) :
 cs.length=P.cellsOf t/\∃f,V8=f+1/\∀q∈fs.toList,∃(d:DataW H)(p:List MemPlace),RdT enc P W held f q.type ((cs.drop q.offset).take (P.cellsOf q.type)) (d,p)/\∀n∈d.weights P q.type,n∈x.1.weights P t:=by
 have ht':=ht;obtain⟨f,rfl⟩:=b6v h;unfold RdT DataW.trod at h;rw[ht]at h;split at h<;>simp_all
 obtain⟨h1,xs,h2,hx⟩:=h;intro q hq;obtain⟨j,hj⟩:=Array.getElem?_of_mem hq;obtain⟨e,k⟩:=a4U h2;obtain⟨y,hy,hr⟩:=k j q (by simpa using hj);refine⟨y.1,⟨y.2,hr⟩,λn hn=>?_⟩;subst hx;unfold DataW.weights;rw[ht'];exact DataW.weights_mem_each (j:=j) (by simp[hj]) (by simp[hy]) n hn
theorem a5v{e:TypeId}{d:DataW H}:∀{l:List (DataW H)},d∈l->∀n∈d.weights P e,n∈DataW.weightsAll P e l
 |y::l,hd,n,hn=>by
  unfold DataW.weightsAll;rcases qQ.1 hd with rfl|hd
  ·exact List.mem_append_left _ hn
  ·exact qE _ (a5v hd n hn)
theorem b8D{e:TypeId}(ht:P.underlying t=some (.slice e))(h:RdT enc P W held V8 t cs x) :
 cs=[.slice none 0 0]\/∃a n c f,cs=[.slice (some a) n c]/\V8=f+1/\n<=c/\c<=maxLen/\∀i,i<n->∃ys y,W.cells? 0 (a.add (i*P.cellsOf e)) (P.cellsOf e)=some ys/\RdT enc P W held f e ys y/\∀k∈y.1.weights P e,k∈x.1.weights P t:=by
 rcases DataW.trod_slice ht h with⟨rfl,_⟩|⟨a,n,c,el,rs,f,rfl,rfl,rfl,_,h1,h2,h3,h4,_,_⟩
 ·exact .inl rfl
 ·refine .inr ⟨a,n,c,f,rfl,rfl,h1,h2,λi hi=>?_⟩
  have he:=h4 i hi;rw[qk (by omega)]at he;cases hc:W.cells? 0 (a.add (i*P.cellsOf e)) (P.cellsOf e)with
  |none=>rw[hc]at he;cases he
  |some ys=>rw[hc]at he;refine⟨ys,el[i]'(by omega),rfl,he,λk hk=>?_⟩;unfold DataW.weights;rw[ht];exact qt _ (List.mem_append_left _ (a5v (jb.2 ⟨_,List.getElem_mem _,rfl⟩) k hk))
theorem b6l{α:Type}{Pr:α->Prop}{enc':α->Lv}{e sz:Nat}(ht:P.underlying t=some (.slice e))(hsz:P.cellsOf e=sz)(hpos:0<sz)(henc:∀x,(enc' x).length=sz)
 (hdec:∀f ys y,RdT enc P W held f e ys y->(∀k∈y.1.weights P e,k∈x.1.weights P t)->∃z,ys=enc' z/\Pr z) (h:RdT enc P W held V8 t cs x) :
 ∃a n c l,cs=[.slice a n c]/\l.length=n/\Sl (a1X W) a n c sz (fl enc' l)/\∀z∈l,Pr z:=by
 rcases b8D ht h with rfl|⟨a,n,c,f,rfl,rfl,h1,h2,h3⟩
 ·exact⟨none,0,0,[],rfl,rfl,Sl.nil _ _,λ_ h=>by cases h⟩
 ·rw[hsz]at h3
  have h4:∀i,i<n->∃z,W.cells? 0 (a.add (i*sz)) sz=some (enc' z)/\Pr z:=λi hi=>by
   obtain⟨ys,y,e1,e2,e3⟩:=h3 i hi;obtain⟨z,rfl,hz⟩:=hdec f ys y e2 e3;exact⟨z,e1,hz⟩
  obtain⟨l,hl,hp⟩:=a5A n h4;refine⟨some a,n,c,l,rfl,hl,⟨by rw[a6y henc,hl],h1,by unfold maxLen at h2;omega,λj v hj=>?_⟩,λz hz=>?_⟩
  ·have hjl:j<n*sz:=by have:=(qd.1 hj).1;rwa [a6y henc,hl]at this
   have hq:j/sz<n:=Nat.div_lt_of_lt_mul (by rwa [ji]at hjl);obtain⟨z,hz⟩:=A8 (l:=l) (k:=j/sz) (by omega);have hm:j%sz<sz:=Nat.mod_lt _ hpos;have hj2:(enc' z)[j%sz]?=some v:=by have:=a6Y (sz:=sz) enc' henc l (j/sz) (j%sz) hm;rw[ji,Nat.div_add_mod,hz]at this;unfold fl at hj;rw[hj]at this;exact this.symm
   obtain⟨hc,_⟩:=hp _ z hz;have hcell:=(a5N hc).2 _ v hj2;have hsp:a.spot=none:=by
    obtain⟨z0,hz0⟩:=A8 (l:=l) (k:=0) (by rw[hl];exact Nat.lt_of_le_of_lt (qi _) hq);obtain⟨v0,hv0⟩:=A8 (l:=enc' z0) (k:=0) (by rw[henc];omega);have h0:=(a5N (hp _ z0 hz0).1).2 _ v0 hv0;have e0:(a.add (0*sz)).add 0=a:=by simp[Addr.add]
    rw[e0]at h0;unfold World.cell? at h0;split at h0
    ·cases hs:a.spot with
     |none=>rfl
     |some q=>rw[hs]at h0;cases h0
    ·cases h0
   obtain⟨b,off,sp⟩:=a;cases hsp;refine⟨b,off,rfl,?_⟩;rw[Addr.add_lit,Addr.add_lit,jd,show j/sz*sz+j%sz=j by rw[ji,Nat.div_add_mod]]at hcell;exact a0H hcell
  ·obtain⟨i,hi⟩:=List.getElem?_of_mem hz
   exact(hp i z hi).2
end
end Go.Eng
namespace Go.Eng
open Go
section
variable {P:Program}{ops:Array Oper}{Q:Exit->Pw}{n:Cx}{F:Fm}{h h':Lr}{m:View}{rest:Lo}
variable {ty:TypeId}{pos:String}{after:Array Edge}{d:Nat}{v:Value}{eff:List Nat}{hs hp:Lr}{i:Nat}{s:Tr}
end
end Go.Eng
end

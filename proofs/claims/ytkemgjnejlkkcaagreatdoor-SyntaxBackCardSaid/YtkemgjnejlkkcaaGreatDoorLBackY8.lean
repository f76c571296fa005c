import Derived.Test.YtkemgjnejlkkcaaGreatDoorLBackY7
import Derived.SevenTiedAt
import Derived.Test.YtkemgjnejlkkcaaGreatDoorCards
import Derived.Test.YtkemgjnejlkkcaaGreatDoorTie
import Derived.ChangeMaps5
set_option maxRecDepth 100000
set_option maxHeartbeats 2000000
namespace Go.Proofs.YtkemgjnejlkkcaaGreatDoor
section
open Go.Eng Go.Pc Go.Sx Go
open Go.Xp hiding B D1
open Go.Ly (Rw S9 F7)
theorem c3n {m:View} (hg:Glob m) (hp:Pow m) (p:Pr) (h:List Res) (hP:POk m h p):CT Tryz.prog 5 [prV p] h m Law:=by
 obtain⟨L,hM1⟩:∃ L,(R0 p).1=L:=⟨_,rfl⟩;obtain⟨e,hM2⟩:∃ e,(R0 p).2=e:=⟨_,rfl⟩;have hM:R0 p=(L,e):=by rw[<- hM1,<- hM2]
 refine CT.body Tryz.call5 Tryz.func5 rfl Tryz.ntmps5 Lb rfl ?_;refine j0 ?_;refine xX fun b1=>?_
 refine kQ1 [1] ?_;refine xG (S2 U4 rfl rfl Et (by (repeat (first | exact b5d _ | apply b6y | apply List.mem_append_right))) rfl) ?_;refine xg (E1 Et) (b4H hg hp p _ (hP.mono Sb)) ?_;rintro _ _ ⟨a10,c10,bl,rfl,hrd,rfl,hown⟩;rw[hM1] at hrd hown;rw[hM2] at hown;rw[hM1,hM2];refine kQ5 [1,3,4] ?_;refine kQ2 [1,3,4,14] ?_;refine wc (fun c14=>?_) fun c14=>?_
 replace c14:=a2J c14;have he:e≠0:=by intro q;subst q;simp at c14
 obtain⟨hL,h2⟩:=c0W hM he;subst hL;refine kA2 ?_;refine xG (S2 U4 rfl rfl Et (by (repeat (first | exact b5d _ | apply b6y | apply List.mem_append_right))) rfl) ?_;refine xf (E1 Et) (a7w hg p (hP.mono Sb)) ?_;refine kA1 ?_;refine xG (b97 uu4 Et Et) ?_;refine kA6 ?_;refine zG (fun hc=>a3h hc rfl rfl) ?_;refine kA7 ?_;refine A9 (GU.t rfl rfl) (fun hc=>⟨Ef,Evs.nil,b5F hg hp _⟩) Lb ?_;refine kQ2 [2] ?_;refine wT h ?_;exact congrArg Value.bool (by rcases h2 with ⟨rfl,q⟩ | ⟨rfl,q⟩ <;> rw[q] <;> rfl);replace c14:=a2I c14;obtain rfl:e=0:=by simpa using c14
 obtain rfl:=hown rfl;obtain⟨q0,hq,hsm,hmp,hly⟩:=b7k (d0r hP) hM;have hts:∀ x ∈ L,x.text.length<=140737488355328:=fun x hx=>by have:=((Go.Ly.mayP_all hly).2 x hx).2.2;omega
 refine kQ0 [1,3] ?_;refine kA1 ?_;rw[List.singleton_append];refine xg (E1 Et) (b2a hg a10 c10 L _ hts) ?_;rintro _ _ ⟨y,hx,bl2,rfl,hst,hok,hrd2,rfl⟩;rw[hq] at hst ⊢;have hsame:D6 p y=true:=by rw[<- b7R,hst];exact hsm
 refine kA4 ?_;refine xW fun b5=>?_
 refine kQ3 [1,3,5,6,7] ?_;refine xG (S2 U4 rfl rfl Et (by (repeat (first | exact b5d _ | apply b6y | apply List.mem_append_right))) rfl) ?_;refine xf (E1 Et) (CT.val (a7w hg p (hP.mono Sb)) (congrArg Value.bool hmp)) ?_;refine kA1 ?_;refine zU ?_;refine kA1 ?_;refine zU ?_;refine kA1 ?_;refine wV (b':=true) (by simp) ?_;refine kA2 ?_;refine zU ?_;refine kA1 ?_;refine zU ?_;refine kA1 ?_;refine wV (b':=true) (by simp) ?_;refine kA2 ?_;refine zU ?_;refine xG (S2 U4 rfl rfl Et (by (repeat (first | exact b5d _ | apply b6y | apply List.mem_append_right))) rfl) ?_;refine zU ?_;refine xG (S2 U4 rfl rfl Et (by (repeat (first | exact b5d _ | apply b6y | apply List.mem_append_right))) rfl) ?_;refine zU ?_;refine xf (E2 Et Et) (CT.val (b5p p y _ _ (hP.mono Sb) (hok.mono Sb)) (congrArg Value.bool hsame)) ?_;refine kA2 ?_;refine zU ?_;refine kA1 ?_;refine zU ?_
 refine xf (E1 Et) (CT.val (Ly7.mayR_ct a10 _ c10 L _ _ (hrd2.mono Vl Sb) hts) (congrArg Value.bool hly)) ?_;refine kA2 ?_;refine zU ?_;refine xf E0 (b5F hg hp _) ?_;refine kQ2 [2] ?_;refine wT h ?_;rfl
end
section
open Go Go.Eng Go.RowKit Go.ChangeShapes Go.WideShapes Go.ChangeAt Go.Joins
theorem Tryz.own:ownKnob Tryz.prog.godebug=none:=by kernel_rfl
theorem Tryz.laidOut:laidOutB Tryz.prog=true:=by kernel_rfl
theorem c7D:Tryz.prog.cellsOf 251=3:=by kernel_rfl
abbrev b2v : List (String × DataW Unit) := [("math/bits.deBruijn32tab", Rows.laid_math_bits_deBruijn32tab), ("math/bits.deBruijn64tab", Rows.laid_math_bits_deBruijn64tab), ("internal/strconv.uint64pow10", Rows.laid_internal_strconv_uint64pow10), ("unicode/utf8.acceptRanges", Rows.laid_unicode_utf8_acceptRanges), ("transputer/types.primitive", Rows.laid_transputer_types_primitive), ("transputer/syntax.one", Rows.laid_transputer_syntax_one), ("transputer/syntax.some", Rows.laid_transputer_syntax_some), ("transputer/syntax.all", Rows.laid_transputer_syntax_all), ("unicode/utf8.first", Rows.laid_unicode_utf8_first)]
theorem b3Q {W:World} {I9:Nat} {ys:List Value} {kd sz:Int} {wd:List UInt8} {p:List MemPlace}
 (h:DataW.trod (fun _=>()) Tryz.prog W 0 (fun _=>true) false I9 251 ys=some (.agg [.lit (.int .u8 kd),.lit (.string wd),.lit (.int .i64 sz)],p)) :
 ys[0]?=some (.int .u8 kd)/\ys[1]?=some (str wd)/\ys[2]?=some (.int .i64 sz):=by
 obtain⟨f,hf⟩:=a8W b6E h;obtain⟨_,h0⟩:=hf 0 _ _ rfl rfl;obtain⟨_,h1⟩:=hf 1 _ _ rfl rfl;obtain⟨_,h2⟩:=hf 2 _ _ rfl rfl;exact⟨Eng.cell_of_cut (a7Z b7S h0),Eng.cell_of_cut (c1g uu9 h1),Eng.cell_of_cut (a7Z uu3 h2)⟩
theorem a4Q {cs ys:List Value} {i j:Nat} {v:Value} (e:(cs.drop (i * 3)).take 3=ys) (h:ys[j]?=some v):cs[i * 3+j]?=some v:=by
 subst e;rw[List.getElem?_take] at h;split at h
 ·rwa [List.getElem?_drop] at h
 ·cases h
theorem b3E {W:World} {I9:Nat} {ys:List Value} {a b:Int} {p:List MemPlace} (h:DataW.trod (fun _=>()) Tryz.prog W 0 (fun _=>true) false I9 145 ys=some (.agg [.lit (.int .i64 a),.lit (.int .i64 b)],p)) :
 ∀ (j:Nat) (v:Value),([.int .i64 a,.int .i64 b]:List Value)[j]?=some v->ys[j]?=some v:=by
 obtain⟨f,hf⟩:=a8W Y2 h;obtain⟨_,h0⟩:=hf 0 _ _ rfl rfl;obtain⟨_,h1⟩:=hf 1 _ _ rfl rfl;have e0:=Eng.cell_of_cut (a7Z uu3 h0);have e1:=Eng.cell_of_cut (a7Z uu3 h1);intro j v hj;match j,hj with
 | 0,hj=>cases hj;exact e0
 | 1,hj=>cases hj;exact e1
theorem c7b {W:World} (h:laidMet Tryz.prog b2v W) (hsh:W.ShapedOpen Tryz.prog):Glob (K5 W):=by
 obtain⟨_,⟨_,_,_,_,_,_,_,_,_,_,⟨_,_,_,_,_,_,_,_,_,_,⟨_,_,_,_,_,_,_,_,_,_,⟨_,_,_,_,_,_,_,_,_,_,⟨g4,t4,cs4,f4,p4,q4,hg4,ht4,hv4,hd4,⟨g5,t5,cs5,f5,p5,q5,hg5,ht5,hv5,hd5,⟨g6,t6,cs6,f6,p6,q6,hg6,ht6,hv6,hd6,⟨g7,t7,cs7,f7,p7,q7,hg7,ht7,hv7,hd7,_,_⟩,_⟩,_⟩,_⟩,_⟩,_⟩,_⟩,_⟩,_⟩:=h;obtain rfl := Option.some.inj ((show Tryz.prog.globalNamed "transputer/types.primitive" = some 4 by kernel_rfl).symm.trans hg4);obtain rfl:=Option.some.inj ((show(Tryz.prog.globals[4]?).map (·.type)=some 252 by kernel_rfl).symm.trans ht4);obtain rfl := Option.some.inj ((show Tryz.prog.globalNamed "transputer/syntax.one" = some 1 by kernel_rfl).symm.trans hg5);obtain rfl:=Option.some.inj ((show(Tryz.prog.globals[1]?).map (·.type)=some 145 by kernel_rfl).symm.trans ht5);obtain rfl := Option.some.inj ((show Tryz.prog.globalNamed "transputer/syntax.some" = some 2 by kernel_rfl).symm.trans hg6)
 obtain rfl:=Option.some.inj ((show(Tryz.prog.globals[2]?).map (·.type)=some 145 by kernel_rfl).symm.trans ht6);obtain rfl := Option.some.inj ((show Tryz.prog.globalNamed "transputer/syntax.all" = some 0 by kernel_rfl).symm.trans hg7);obtain rfl:=Option.some.inj ((show(Tryz.prog.globals[0]?).map (·.type)=some 145 by kernel_rfl).symm.trans ht7);refine⟨(Tryz.laysM144.s1_3 W hsh).imp fun _ e=>a1P e,fun j v hj=>a1P ?_,fun j v hj=>a1P ?_,fun j v hj=>a1P ?_,fun j v hj=>a1P ?_⟩
 ·obtain⟨f,hf⟩:=b7o a8T hd4
  obtain⟨_,h0⟩:=hf 0 _ (by decide) rfl;obtain⟨_,h1⟩:=hf 1 _ (by decide) rfl;obtain⟨_,h2⟩:=hf 2 _ (by decide) rfl;rw[c7D] at h0 h1 h2;have a0:=b3Q h0;have a1:=b3Q h1;have a2:=b3Q h2;rw[World.var?_cell hg4 hv4 j,<- Array.getElem?_toList];match j,hj with
  | 0,hj=>cases hj;exact a4Q (i:=0) rfl a0.1
  | 1,hj=>cases hj;exact a4Q (i:=0) rfl a0.2.1
  | 2,hj=>cases hj;exact a4Q (i:=0) rfl a0.2.2
  | 3,hj=>cases hj;exact a4Q (i:=1) rfl a1.1
  | 4,hj=>cases hj;exact a4Q (i:=1) rfl a1.2.1
  | 5,hj=>cases hj;exact a4Q (i:=1) rfl a1.2.2
  | 6,hj=>cases hj;exact a4Q (i:=2) rfl a2.1
  | 7,hj=>cases hj;exact a4Q (i:=2) rfl a2.2.1
  | 8,hj=>cases hj;exact a4Q (i:=2) rfl a2.2.2
 ·rw[World.var?_cell hg5 hv5 j,<- Array.getElem?_toList]
  exact b3E hd5 j v hj
 ·rw[World.var?_cell hg6 hv6 j,<- Array.getElem?_toList]
  exact b3E hd6 j v hj
 ·rw[World.var?_cell hg7 hv7 j,<- Array.getElem?_toList]
  exact b3E hd7 j v hj
theorem c8M {W : World} (h : laidMet Tryz.prog b2v W) : Lib.TabIs Tryz.prog W "internal/strconv.uint64pow10" .u64 Lib.pow10Tab := by
 obtain⟨_,⟨_,_,_,_,_,_,_,_,_,_,⟨_,_,_,_,_,_,_,_,_,_,⟨g2,t2,cs2,f2,p2,q2,hg2,ht2,hv2,hd2,_,_⟩,_⟩,_⟩,_⟩:=h;have hg : Tryz.prog.globalNamed "internal/strconv.uint64pow10" = some 7 := by kernel_rfl
 have hty:(Tryz.prog.globals[7]?).map (·.type)=some 297:=by kernel_rfl
 obtain rfl:=Option.some.inj (hg.symm.trans hg2);obtain rfl:=Option.some.inj (hty.symm.trans ht2);unfold Lib.TabIs;rw[hv2,<- Lib.cells_of_tab (zs:=Lib.pow10Tab) c7U c7Q (by kernel_rfl) (by kernel_rfl) hd2]
theorem c9n {W w : World} {h : List Res} (ht : Lib.TabIs Tryz.prog W "internal/strconv.uint64pow10" .u64 Lib.pow10Tab) (st : St (K5 W) h w) : Lib.TabIs Tryz.prog w "internal/strconv.uint64pow10" .u64 Lib.pow10Tab := by
 unfold Lib.TabIs World.var? at ht ⊢;cases hg : Tryz.prog.globalNamed "internal/strconv.uint64pow10" with
 | none=>rw[hg] at ht;cases ht
 | some g=>
  rw[hg] at ht;simp only[Option.bind_some] at ht ⊢;cases hb:W.heap[g]? with
  | none=>rw[hb] at ht;cases ht
  | some o=>rw[st.blk g o hb,<- hb];exact ht
theorem c9q {W:World} (h:laidMet Tryz.prog b2v W):Pow (K5 W):=fun _ _ st=>c9n (c8M h) st
noncomputable def d2h:DataW Unit->List Value
 | .lit (.int k z)=>[.int k z]
 | _=>[]
noncomputable def d1Y:DataW Unit->List Value
 | .lit (.int k z)=>[.int k z]
 | .agg ds=>ds.flatMap d2h
 | _=>[]
noncomputable def c3X:DataW Unit->Array Value
 | .agg ds=>(ds.flatMap d1Y).toArray
 | _=>#[]
noncomputable def b4q (g:Nat) (vs:Array Value) (hp:Array Obj):Array Obj:=hp.modify g fun
 | .cells _ t fz=>.cells vs t fz
 | o=>o
noncomputable def b2o (os:Os):World:=
 { World.holding Tryz.prog os ⟨#[],#[],[]⟩ with heap:=b4q 8 (c3X Rows.laid_math_bits_deBruijn32tab) (b4q 9 (c3X Rows.laid_math_bits_deBruijn64tab) (b4q 7 (c3X Rows.laid_internal_strconv_uint64pow10) (b4q 6 (c3X Rows.laid_unicode_utf8_acceptRanges) (b4q 5 (c3X Rows.laid_unicode_utf8_first) (b4q 4 c8l.toArray (b4q 1 b0R.toArray (b4q 2 a8U.toArray (b4q 0 c6g.toArray (World.holding Tryz.prog os ⟨#[],#[],[]⟩).heap)))))))) }
theorem b1N (os:Os) (args:Array Value):laidMet Tryz.prog b2v ((b2o os).forCall (fun _ _=>0) ⟨#[],args,[]⟩).memory:=
 laidMet_of_run' 8 (by kernel_rfl) (by kernel_rfl)
end
section
open Go Go.Eng Go.Ty Go.Xp Go.RowKit Go.ChangeShapes Go.WideShapes Go.ChangeAt Go.Joins
variable {H:Type} {enc:TypeId × Value->H} {W:World}
theorem a8D:Tryz.prog.cellsOf 35=6:=by kernel_rfl
theorem c7l:∀ (I9:Nat) {cs:List Value} {x:DataW H × List MemPlace},RdT enc Tryz.prog W true I9 35 cs x->(∀ q ∈ x.1.weights Tryz.prog 35,q<=reachBytes)->∃ e:Ex,cs=exE e/\TOk (K5 W) [] e/\Wf e:=by
 intro I9;induction I9 using Nat.strongRecOn with
 | _ I9 ih=>
 intro cs x hr hw;obtain⟨hl,f,hfu,hf⟩:=W9 a3p hr;rw[a8D] at hl;match cs,hl with
 | [c0,c1,c2,c3,c4,c5],_=>
  obtain⟨_,_,h0,_⟩:=hf _ (.head _);obtain⟨_,_,h1,_⟩:=hf _ (.tail _ (.head _));obtain⟨_,_,h2,_⟩:=hf _ (.tail _ (.tail _ (.head _)));obtain⟨_,_,h3,_⟩:=hf _ (.tail _ (.tail _ (.tail _ (.head _))));obtain⟨_,_,h4,k4⟩:=hf _ (.tail _ (.tail _ (.tail _ (.tail _ (.head _)))));obtain⟨d5,p5,h5,k5⟩:=hf _ (.tail _ (.tail _ (.tail _ (.tail _ (.tail _ (.head _))))));obtain⟨n0,e0,w0⟩:=a2v d1A h0;obtain⟨n1,e1,w1⟩:=a2v c9l h1;obtain⟨n2,e2,w2⟩:=a2v b7S h2;obtain⟨n3,e3,w3⟩:=a2v a4e h3;obtain⟨n4,e4,w4⟩:=b3O uu9 h4;obtain⟨a,n,c,l,e5,hll,hs,hp⟩:=X0 (Pr:=fun e:Ex=>TOk (K5 W) [] e/\Wf e) (enc':=exE) c5M a8D (by decide) a3T (fun g ys y hg hy hk=>by
   obtain⟨e,he1,he2⟩:=ih g (by omega) hy fun q hq=>hw q (k5 q (hk q hq))
   exact⟨e,he1,he2⟩) h5
  obtain rfl:c0=.int .u8 n0:=List.head_eq_of_cons_eq e0;obtain rfl:c1=.int .u8 n1:=List.head_eq_of_cons_eq e1;obtain rfl:c2=.int .u8 n2:=List.head_eq_of_cons_eq e2;obtain rfl:c3=.int .i32 n3:=List.head_eq_of_cons_eq e3;obtain rfl:c4=str n4:=List.head_eq_of_cons_eq e4;obtain rfl:c5=.slice a n c:=List.head_eq_of_cons_eq e5;subst hll;have u0:0<=n0/\n0<=255:=by simpa [Lit.wf,show IntKind.u8.min=0 from rfl,show IntKind.u8.max=255 from rfl] using w0
  have u1:0<=n1/\n1<=255:=by simpa [Lit.wf,show IntKind.u8.min=0 from rfl,show IntKind.u8.max=255 from rfl] using w1
  have u2:0<=n2/\n2<=255:=by simpa [Lit.wf,show IntKind.u8.min=0 from rfl,show IntKind.u8.max=255 from rfl] using w2
  have u3:-2147483648<=n3/\n3<=2147483647:=by simp[Lit.wf] at w3;exact w3
  exact⟨.mk n0 n1 n2 n3 n4 a c l,rfl,.mk (Rd.ofSl hs) fun y hy=>(hp y hy).1,.mk u0 u1 u2 u3 (Nat.le_trans (hw _ (k4 _ w4)) (by decide)) fun y hy=>(hp y hy).2⟩
end
section
open Go.Xp hiding B
open Go Go.Eng Go.Ty Go.Pc Go.RowKit Go.ChangeShapes Go.WideShapes Go.ChangeAt Go.Joins
open Go.Lx (encB D7)
variable {H:Type} {enc:TypeId × Value->H} {W:World}
abbrev Wt (x:DataW H × List MemPlace) (t:TypeId):Prop:=∀ q ∈ x.1.weights Tryz.prog t,q<=reachBytes
theorem F4 (cs:List Value) (i n:Nat):cs.drop i=(cs.drop i).take n++cs.drop (i+n):=by
 rw[<- List.drop_drop,List.take_append_drop]
theorem c1N:Tryz.prog.cellsOf 9=1:=by kernel_rfl
theorem c3P:Tryz.prog.cellsOf 3=1:=by kernel_rfl
theorem c6u:Tryz.prog.cellsOf 43=4:=by kernel_rfl
theorem b8e:Tryz.prog.cellsOf 125=2:=by kernel_rfl
theorem c6X:Tryz.prog.cellsOf 32=1:=by kernel_rfl
theorem c6U:Tryz.prog.cellsOf 47=2:=by kernel_rfl
theorem b9c:Tryz.prog.cellsOf 97=6:=by kernel_rfl
theorem c6h:Tryz.prog.cellsOf 37=13:=by kernel_rfl
theorem c4W:Tryz.prog.cellsOf 50=16:=by kernel_rfl
theorem b8y:Tryz.prog.cellsOf 86=23:=by kernel_rfl
theorem b8V:Tryz.prog.cellsOf 52=42:=by kernel_rfl
theorem b5Z {n:Int} (w:(Lit.int .u8 n).wf=true):0<=n/\n<=255:=by simpa [Lit.wf,show IntKind.u8.min=0 from rfl,show IntKind.u8.max=255 from rfl] using w
theorem c2W {n:Int} (w:(Lit.int .i64 n).wf=true):-9223372036854775808<=n/\n<=9223372036854775807:=by
 simp[Lit.wf] at w;exact w
theorem b56 {I9:Nat} {cs:List Value} {x:DataW H × List MemPlace} (hr:RdT enc Tryz.prog W true I9 43 cs x) (hw:Wt x 43):∃ t:Ty,cs=L5 t/\TyW t:=by
 obtain⟨hl,f,_,hf⟩:=W9 b1P hr;rw[c6u] at hl;match cs,hl with
 | [c0,c1,c2,c3],_=>
  obtain⟨_,_,h0,_⟩:=hf _ (.head _);obtain⟨_,_,h1,_⟩:=hf _ (.tail _ (.head _));obtain⟨_,_,h2,_⟩:=hf _ (.tail _ (.tail _ (.head _)));obtain⟨_,_,h3,k3⟩:=hf _ (.tail _ (.tail _ (.tail _ (.head _))));obtain⟨n0,e0,w0⟩:=a2v b7S h0;obtain⟨n1,e1,w1⟩:=a2v uu3 h1;obtain⟨n2,e2,w2⟩:=a2v b7S h2;obtain⟨n3,e3,w3⟩:=b3O uu9 h3;obtain rfl:c0=.int .u8 n0:=List.head_eq_of_cons_eq e0;obtain rfl:c1=.int .i64 n1:=List.head_eq_of_cons_eq e1;obtain rfl:c2=.int .u8 n2:=List.head_eq_of_cons_eq e2;obtain rfl:c3=str n3:=List.head_eq_of_cons_eq e3;exact⟨⟨n0,n1,n2,n3⟩,rfl,b5Z w0,b5Z w2,c2W w1,Nat.le_trans (hw _ (k3 _ w3)) (by decide)⟩
theorem a2P {I9:Nat} {cs:List Value} {x:DataW H × List MemPlace} (hr:RdT enc Tryz.prog W true I9 9 cs x) (hw:Wt x 9):∃ s:List UInt8,cs=encB s/\s.length<=Big:=by
 obtain⟨s,e,w⟩:=b3O uu9 hr;exact⟨s,e,Nat.le_trans (hw _ w) (by decide)⟩
theorem c5Z {I9:Nat} {cs:List Value} {x:DataW H × List MemPlace} (hr:RdT enc Tryz.prog W true I9 97 cs x) (hw:Wt x 97):∃ f:Fo,cs=foE f/\FoW f:=by
 obtain⟨hl,f,_,hf⟩:=W9 c1O hr;rw[b9c] at hl;obtain⟨_,_,h0,_⟩:=hf _ (.head _);obtain⟨_,_,h1,k1⟩:=hf _ (.tail _ (.head _));obtain⟨_,_,h2,k2⟩:=hf _ (.tail _ (.tail _ (.head _)));obtain⟨b,e0⟩:=b9h uu4 h0;obtain⟨t,e1,w1⟩:=b56 h1 fun q hq=>hw q (k1 q hq)
 obtain⟨s,e2,w2⟩:=a2P h2 fun q hq=>hw q (k2 q hq)
 refine⟨⟨b,t,s⟩,?_,w1,w2⟩;have h:cs.drop 6=[]:=List.drop_eq_nil_of_le (by omega);rw[show cs=cs.drop 0 from rfl,F4 cs 0 1,show(cs.drop 0).take 1=_ from e0,F4 cs 1 4,show(cs.drop (0+1)).take 4=_ from e1,F4 cs 5 1,show(cs.drop (1+4)).take 1=_ from e2,h];rfl
theorem a2g {I9:Nat} {cs:List Value} {x:DataW H × List MemPlace} (hr:RdT enc Tryz.prog W true I9 35 cs x) (hw:Wt x 35):∃ e:Ex,cs=exE e/\EOk (K5 W) [] e:=by
 obtain⟨e,h1,h2,h3⟩:=c7l I9 hr hw;exact⟨e,h1,h2,h3⟩
theorem a7X {I9:Nat} {cs:List Value} {x:DataW H × List MemPlace} (hr:RdT enc Tryz.prog W true I9 33 cs x) (hw:Wt x 33):∃ s:Sli Ex,cs=[.slice s.a s.l.length s.c]/\LOk (K5 W) [] s:=by
 obtain⟨a,n,c,l,e,hl,hs,hp⟩:=X0 (Pr:=fun e:Ex=>EOk (K5 W) [] e) (enc':=exE) c5M a8D (by decide) a3T (fun g ys y _ hy hk=>a2g hy fun q hq=>hw q (hk q hq)) hr;subst hl;exact⟨⟨a,c,l⟩,e,Rd.ofSl hs,hp⟩
theorem c0k {I9:Nat} {cs:List Value} {x:DataW H × List MemPlace} (hr:RdT enc Tryz.prog W true I9 44 cs x) (hw:Wt x 44):∃ s:Sli B,cs=[.slice s.a s.l.length s.c]/\Rd (K5 W) [] s.a s.l.length s.c 1 (fl encB s.l)/\∀ x ∈ s.l,x.length<=Big:=by
 obtain⟨a,n,c,l,e,hl,hs,hp⟩:=X0 (Pr:=fun x:B=>x.length<=Big) (enc':=encB) d0Y c1N (by decide) D7 (fun g ys y _ hy hk=>a2P hy fun q hq=>hw q (hk q hq)) hr;subst hl;exact⟨⟨a,c,l⟩,e,Rd.ofSl hs,hp⟩
theorem b9Q {I9:Nat} {cs:List Value} {x:DataW H × List MemPlace} (hr:RdT enc Tryz.prog W true I9 40 cs x):∃ s:Sli Int,cs=[.slice s.a s.l.length s.c]/\Rd (K5 W) [] s.a s.l.length s.c 1 (fl a4N s.l)/\∀ x ∈ s.l,-9223372036854775808<=x/\x<=9223372036854775807:=by
 obtain⟨a,n,c,l,e,hl,hs,hp⟩:=X0 (Pr:=fun x:Int=>-9223372036854775808<=x/\x<=9223372036854775807) (enc':=a4N) d1K c3P (by decide) a7y (fun g ys y _ hy _=>by
  obtain⟨n,e,w⟩:=a2v uu3 hy;exact⟨n,e,c2W w⟩) hr
 subst hl;exact⟨⟨a,c,l⟩,e,Rd.ofSl hs,hp⟩
theorem c2H {I9:Nat} {cs:List Value} {x:DataW H × List MemPlace} (hr:RdT enc Tryz.prog W true I9 48 cs x) (hw:Wt x 48):∃ s:Sli Fo,cs=[.slice s.a s.l.length s.c]/\Rd (K5 W) [] s.a s.l.length s.c 6 (fl foE s.l)/\∀ x ∈ s.l,FoW x:=by
 obtain⟨a,n,c,l,e,hl,hs,hp⟩:=X0 (Pr:=fun x:Fo=>FoW x) (enc':=foE) d10 b9c (by decide) a4J (fun g ys y _ hy hk=>c5Z hy fun q hq=>hw q (hk q hq)) hr;subst hl;exact⟨⟨a,c,l⟩,e,Rd.ofSl hs,hp⟩
theorem c6C {I9:Nat} {cs:List Value} {x:DataW H × List MemPlace} (hr:RdT enc Tryz.prog W true I9 37 cs x) (hw:Wt x 37):∃ r:Rp,cs=rpE r/\r.name.length<=Big/\EOk (K5 W) [] r.base/\EOk (K5 W) [] r.count:=by
 obtain⟨hl,f,_,hf⟩:=W9 c7a hr;rw[c6h] at hl;obtain⟨_,_,h0,k0⟩:=hf _ (.head _);obtain⟨_,_,h1,k1⟩:=hf _ (.tail _ (.head _));obtain⟨_,_,h2,k2⟩:=hf _ (.tail _ (.tail _ (.head _)));obtain⟨s,e0,w0⟩:=a2P h0 fun q hq=>hw q (k0 q hq)
 obtain⟨b,e1,w1⟩:=a2g h1 fun q hq=>hw q (k1 q hq)
 obtain⟨c,e2,w2⟩:=a2g h2 fun q hq=>hw q (k2 q hq)
 refine⟨⟨s,b,c⟩,?_,w0,w1,w2⟩;have h:cs.drop 13=[]:=List.drop_eq_nil_of_le (by omega);rw[show cs=cs.drop 0 from rfl,F4 cs 0 1,show(cs.drop 0).take 1=_ from e0,F4 cs 1 6,show(cs.drop (0+1)).take 6=_ from e1,F4 cs 7 6,show(cs.drop (1+6)).take 6=_ from e2,h];rfl
theorem c4i {I9:Nat} {cs:List Value} {x:DataW H × List MemPlace} (hr:RdT enc Tryz.prog W true I9 125 cs x) (hw:Wt x 125):∃ v:Vr,cs=encV v/\(VOk (K5 W) [] v/\v.tag.length<=9223372036854775807)/\v.items.length=v.n:=by
 obtain⟨hl,f,_,hf⟩:=W9 b2R hr;rw[b8e] at hl;match cs,hl with
 | [c0,c1],_=>
  obtain⟨_,_,h0,k0⟩:=hf _ (.head _);obtain⟨_,_,h1,k1⟩:=hf _ (.tail _ (.head _));obtain⟨n0,e0,w0⟩:=a2P h0 fun q hq=>hw q (k0 q hq)
  obtain⟨a,n,c,l,e1,hll,hs,_⟩:=X0 (Pr:=fun _:Int=>True) (enc':=O9) b5m c6X (by decide) E6 (fun g ys y _ hy _=>by
   obtain⟨n,e,_⟩:=a2v b7S hy;exact⟨n,e,trivial⟩) h1
  obtain rfl:c0=str n0:=List.head_eq_of_cons_eq e0;obtain rfl:c1=.slice a n c:=List.head_eq_of_cons_eq e1;exact⟨⟨n0,a,n,c,l⟩,rfl,⟨⟨Rd.ofSl hs⟩,Nat.le_trans w0 (by decide)⟩,hll⟩
theorem c5R {I9:Nat} {cs:List Value} {x:DataW H × List MemPlace} (hr:RdT enc Tryz.prog W true I9 47 cs x) (hw:Wt x 47):∃ (b:Bool) (s:Sli Vr),cs=[.bool b,.slice s.a s.l.length s.c]/\PrOk (K5 W) [] s.a s.l.length s.c s.l/\∀ x ∈ s.l,x.items.length=x.n:=by
 obtain⟨hl,f,_,hf⟩:=W9 c0l hr;rw[c6U] at hl;match cs,hl with
 | [c0,c1],_=>
  obtain⟨_,_,h0,_⟩:=hf _ (.head _);obtain⟨_,_,h1,k1⟩:=hf _ (.tail _ (.head _));obtain⟨b,e0⟩:=b9h uu4 h0;obtain⟨a,n,c,l,e1,hll,hs,hp⟩:=X0 (Pr:=fun v:Vr=>(VOk (K5 W) [] v/\v.tag.length<=9223372036854775807)/\v.items.length=v.n) (enc':=encV) c5C b8e (by decide) F2 (fun g ys y _ hy hk=>c4i hy fun q hq=>hw q (k1 q (hk q hq))) h1;obtain rfl:c0=.bool b:=List.head_eq_of_cons_eq e0;obtain rfl:c1=.slice a n c:=List.head_eq_of_cons_eq e1;subst hll;exact⟨b,⟨a,c,l⟩,rfl,⟨Rd.ofSl hs,fun v hv=>(hp v hv).1.1,fun v hv=>(hp v hv).1.2⟩,fun v hv=>(hp v hv).2⟩
abbrev PsR (I9:Nat):Prop:=∀ g,g < I9->∀ {cs:List Value} {x:DataW H × List MemPlace},RdT enc Tryz.prog W true g 52 cs x->Wt x 52->∃ p:Pr,cs=prE p/\POk (K5 W) [] p
theorem a9N {I9:Nat} (ih:PsR (enc:=enc) (W:=W) I9) {cs:List Value} {x:DataW H × List MemPlace} (hr:RdT enc Tryz.prog W true I9 39 cs x) (hw:Wt x 39) :
 ∃ a c l,cs=[.slice a l.length c]/\Rd (K5 W) [] a l.length c 42 (fl prE l)/\∀ p ∈ l,POk (K5 W) [] p:=by
 obtain⟨a,n,c,l,e,hl,hs,hp⟩:=X0 (Pr:=fun p:Pr=>POk (K5 W) [] p) (enc':=prE) c6f b8V (by decide) a2E (fun g ys y hg hy hk=>ih g hg hy fun q hq=>hw q (hk q hq)) hr;subst hl;exact⟨a,c,l,e,Rd.ofSl hs,hp⟩
theorem PsR.less {f g:Nat} (ih:PsR (enc:=enc) (W:=W) f) (h:g<=f):PsR (enc:=enc) (W:=W) g:=fun k hk=>ih k (Nat.lt_of_lt_of_le hk h)
theorem c7c {I9:Nat} (ih:PsR (enc:=enc) (W:=W) I9) {cs:List Value} {x:DataW H × List MemPlace} (hr:RdT enc Tryz.prog W true I9 50 cs x) (hw:Wt x 50) :
 ∃ s:Sp,cs=spE s/\SOk (K5 W) [] s/\∀ p ∈ s.bl,POk (K5 W) [] p:=by
 obtain⟨hl,f,hfu,hf⟩:=W9 b0s hr;rw[c4W] at hl;obtain⟨_,_,h0,_⟩:=hf _ (.head _);obtain⟨_,_,h1,k1⟩:=hf _ (.tail _ (.head _));obtain⟨_,_,h2,k2⟩:=hf _ (.tail _ (.tail _ (.head _)));obtain⟨_,_,h3,k3⟩:=hf _ (.tail _ (.tail _ (.tail _ (.head _))));obtain⟨_,_,h4,k4⟩:=hf _ (.tail _ (.tail _ (.tail _ (.tail _ (.head _)))));obtain⟨_,_,h5,k5⟩:=hf _ (.tail _ (.tail _ (.tail _ (.tail _ (.tail _ (.head _))))));obtain⟨_,_,h6,k6⟩:=hf _ (.tail _ (.tail _ (.tail _ (.tail _ (.tail _ (.tail _ (.head _)))))));obtain⟨n0,e0,w0⟩:=a2v d1B h0;obtain⟨t1,e1,w1⟩:=b56 h1 fun q hq=>hw q (k1 q hq)
 obtain⟨s2,e2,r2,w2⟩:=c0k h2 fun q hq=>hw q (k2 q hq)
 obtain⟨x3,e3,w3⟩:=a2g h3 fun q hq=>hw q (k3 q hq)
 obtain⟨b4,s4,e4,r4,w4⟩:=c5R h4 fun q hq=>hw q (k4 q hq)
 obtain⟨s5,e5,r5,w5⟩:=c2H h5 fun q hq=>hw q (k5 q hq)
 obtain⟨a6,c6,l6,e6,r6,w6⟩:=a9N (ih.less (by omega)) h6 fun q hq=>hw q (k6 q hq)
 refine⟨.mk n0 t1 s2 x3 b4 s4 s5 a6 c6 l6,?_,⟨b5Z w0,w1,r2,w2,w3,r4,w4,r5,w5,r6⟩,w6⟩;have h:cs.drop 16=[]:=List.drop_eq_nil_of_le (by omega);rw[show cs=cs.drop 0 from rfl,F4 cs 0 1,show(cs.drop 0).take 1=_ from e0,F4 cs 1 4,show(cs.drop (0+1)).take 4=_ from e1,F4 cs 5 1,show(cs.drop (1+4)).take 1=_ from e2,
  F4 cs 6 6,show(cs.drop (5+1)).take 6=_ from e3,F4 cs 12 2,show(cs.drop (6+6)).take 2=_ from e4,F4 cs 14 1,show(cs.drop (12+2)).take 1=_ from e5,F4 cs 15 1,show(cs.drop (14+1)).take 1=_ from e6,h]
 rfl
theorem c6d {I9:Nat} (ih:PsR (enc:=enc) (W:=W) I9) {cs:List Value} {x:DataW H × List MemPlace} (hr:RdT enc Tryz.prog W true I9 86 cs x) (hw:Wt x 86) :
 ∃ g:Gu,cs=guE g/\GOk (K5 W) [] g/\∀ p ∈ g.bl,POk (K5 W) [] p:=by
 obtain⟨hl,f,hfu,hf⟩:=W9 b1B hr;rw[b8y] at hl;obtain⟨_,_,h0,_⟩:=hf _ (.head _);obtain⟨_,_,h1,k1⟩:=hf _ (.tail _ (.head _));obtain⟨_,_,h2,k2⟩:=hf _ (.tail _ (.tail _ (.head _)));obtain⟨_,_,h3,k3⟩:=hf _ (.tail _ (.tail _ (.tail _ (.head _))));obtain⟨_,_,h4,k4⟩:=hf _ (.tail _ (.tail _ (.tail _ (.tail _ (.head _)))));obtain⟨_,_,h5,k5⟩:=hf _ (.tail _ (.tail _ (.tail _ (.tail _ (.tail _ (.head _))))));obtain⟨_,_,h6,k6⟩:=hf _ (.tail _ (.tail _ (.tail _ (.tail _ (.tail _ (.tail _ (.head _)))))));obtain⟨_,_,h7,k7⟩:=hf _ (.tail _ (.tail _ (.tail _ (.tail _ (.tail _ (.tail _ (.tail _ (.head _))))))));obtain⟨n0,e0,w0⟩:=a2v c4M h0;obtain⟨s1,e1,w1⟩:=a2P h1 fun q hq=>hw q (k1 q hq)
 obtain⟨x2,e2,w2⟩:=a2g h2 fun q hq=>hw q (k2 q hq)
 obtain⟨x3,e3,w3⟩:=a2g h3 fun q hq=>hw q (k3 q hq)
 obtain⟨s4,e4,w4⟩:=a7X h4 fun q hq=>hw q (k4 q hq)
 obtain⟨s5,e5,w5⟩:=a7X h5 fun q hq=>hw q (k5 q hq)
 obtain⟨x6,e6,w6⟩:=a2g h6 fun q hq=>hw q (k6 q hq)
 obtain⟨a7,c7,l7,e7,r7,w7⟩:=a9N (ih.less (by omega)) h7 fun q hq=>hw q (k7 q hq)
 refine⟨.mk n0 s1 x2 x3 s4 s5 x6 a7 c7 l7,?_,⟨b5Z w0,w1,w2,w3,w4,w5,w6,r7⟩,w7⟩;have h:cs.drop 23=[]:=List.drop_eq_nil_of_le (by omega);rw[show cs=cs.drop 0 from rfl,F4 cs 0 1,show(cs.drop 0).take 1=_ from e0,F4 cs 1 1,show(cs.drop (0+1)).take 1=_ from e1,F4 cs 2 6,show(cs.drop (1+1)).take 6=_ from e2,
  F4 cs 8 6,show(cs.drop (2+6)).take 6=_ from e3,F4 cs 14 1,show(cs.drop (8+6)).take 1=_ from e4,F4 cs 15 1,show(cs.drop (14+1)).take 1=_ from e5,F4 cs 16 6,show(cs.drop (15+1)).take 6=_ from e6,F4 cs 22 1,show(cs.drop (16+6)).take 1=_ from e7,h]
 rfl
theorem c1z {I9:Nat} (ih:PsR (enc:=enc) (W:=W) I9) {cs:List Value} {x:DataW H × List MemPlace} (hr:RdT enc Tryz.prog W true I9 38 cs x) (hw:Wt x 38) :
 ∃ a c l,cs=[.slice a l.length c]/\Rd (K5 W) [] a l.length c 23 (fl guE l)/\∀ g ∈ l,GOk (K5 W) [] g/\∀ p ∈ g.bl,POk (K5 W) [] p:=by
 obtain⟨a,n,c,l,e,hl,hs,hp⟩:=X0 (Pr:=fun g:Gu=>GOk (K5 W) [] g/\∀ p ∈ g.bl,POk (K5 W) [] p) (enc':=guE) d1g b8y (by decide) a6f (fun g ys y hg hy hk=>c6d (ih.less (by omega)) hy fun q hq=>hw q (hk q hq)) hr;subst hl;exact⟨a,c,l,e,Rd.ofSl hs,hp⟩
theorem c5v:∀ (I9:Nat) {cs:List Value} {x:DataW H × List MemPlace},RdT enc Tryz.prog W true I9 52 cs x->Wt x 52->∃ p:Pr,cs=prE p/\POk (K5 W) [] p:=by
 intro I9;induction I9 using Nat.strongRecOn with
 | _ I9 ih=>
 intro cs x hr hw;replace ih:PsR (enc:=enc) (W:=W) I9:=fun g hg=>ih g hg
 obtain⟨hl,f,hfu,hf⟩:=W9 U4 hr;rw[b8V] at hl;obtain⟨_,_,h0,_⟩:=hf _ (.head _);obtain⟨_,_,h1,k1⟩:=hf _ (.tail _ (.head _));obtain⟨_,_,h2,k2⟩:=hf _ (.tail _ (.tail _ (.head _)));obtain⟨_,_,h3,k3⟩:=hf _ (.tail _ (.tail _ (.tail _ (.head _))));obtain⟨_,_,h4,k4⟩:=hf _ (.tail _ (.tail _ (.tail _ (.tail _ (.head _)))));obtain⟨_,_,h5,k5⟩:=hf _ (.tail _ (.tail _ (.tail _ (.tail _ (.tail _ (.head _))))));obtain⟨_,_,h6,k6⟩:=hf _ (.tail _ (.tail _ (.tail _ (.tail _ (.tail _ (.tail _ (.head _)))))));obtain⟨_,_,h7,k7⟩:=hf _ (.tail _ (.tail _ (.tail _ (.tail _ (.tail _ (.tail _ (.tail _ (.head _))))))));obtain⟨_,_,h8,_⟩:=hf _ (.tail _ (.tail _ (.tail _ (.tail _ (.tail _ (.tail _ (.tail _ (.tail _ (.head _)))))))));obtain⟨_,_,h9,k9⟩:=hf _ (.tail _ (.tail _ (.tail _ (.tail _ (.tail _ (.tail _ (.tail _ (.tail _ (.tail _ (.head _))))))))));obtain⟨n0,e0,w0⟩:=a2v d0R h0
 obtain⟨s1,e1,w1⟩:=a2P h1 fun q hq=>hw q (k1 q hq)
 obtain⟨x2,e2,w2⟩:=a2g h2 fun q hq=>hw q (k2 q hq)
 obtain⟨s3,e3,w3⟩:=a7X h3 fun q hq=>hw q (k3 q hq)
 obtain⟨s4,e4,w4⟩:=a7X h4 fun q hq=>hw q (k4 q hq)
 obtain⟨r5,e5,w5,wb5,wc5⟩:=c6C h5 fun q hq=>hw q (k5 q hq)
 obtain⟨a6,c6,l6,e6,r6,w6⟩:=c1z (ih.less (by omega)) h6 fun q hq=>hw q (k6 q hq)
 obtain⟨a7,c7,l7,e7,r7,w7⟩:=a9N (ih.less (by omega)) h7 fun q hq=>hw q (k7 q hq)
 obtain⟨s8,e8,r8,w8⟩:=b9Q h8;obtain⟨s9,e9,r9,w9⟩:=c7c (ih.less (by omega)) h9 fun q hq=>hw q (k9 q hq)
 refine⟨.mk n0 s1 x2 s3 s4 r5 a6 c6 l6 a7 c7 l7 s8 s9,?_,.mk ⟨b5Z w0,w1,w2,w3,w4,w5,wb5,wc5,r6,fun g hg=>(w6 g hg).1,r7,r8,w8,r9⟩ fun y hy=>?_⟩
 ·have h:cs.drop 42=[]:=List.drop_eq_nil_of_le (by omega)
  rw[show cs=cs.drop 0 from rfl,F4 cs 0 1,show(cs.drop 0).take 1=_ from e0,F4 cs 1 1,show(cs.drop (0+1)).take 1=_ from e1,F4 cs 2 6,show(cs.drop (1+1)).take 6=_ from e2,
   F4 cs 8 1,show(cs.drop (2+6)).take 1=_ from e3,F4 cs 9 1,show(cs.drop (8+1)).take 1=_ from e4,F4 cs 10 13,show(cs.drop (9+1)).take 13=_ from e5,F4 cs 23 1,show(cs.drop (10+13)).take 1=_ from e6,
   F4 cs 24 1,show(cs.drop (23+1)).take 1=_ from e7,F4 cs 25 1,show(cs.drop (24+1)).take 1=_ from e8,F4 cs 26 16,show(cs.drop (25+1)).take 16=_ from e9,h]
  rfl
 ·cases hy with
  | l h=>exact w7 y h
  | s h=>exact w9 y h
  | g hg h=>exact(w6 _ hg).2 y h
theorem c8Y {r:Reach} {base:Nat} {v:Value} {d:DataW H} {p:List MemPlace} (hv:Value.okWide Tryz.prog W r base 52 v) (h:DataW.Trod enc Tryz.prog W 0 (fun _=>true) true 52 v d p) (hw:∀ q ∈ d.weights Tryz.prog 52,q<=reachBytes) :
 ∃ x:Pr,v=prV x/\POk (K5 W) [] x:=by
 obtain⟨cs,rfl,_⟩:=okWide_struct U4 hv;obtain⟨I9,hf⟩:=h;obtain⟨e,he,ht⟩:=c5v I9 (x:=(d,p)) hf hw;refine⟨e,?_,ht⟩;unfold Pc.prV;rw[<- show cs.toList=prE e from he]
end
end Go.Proofs.YtkemgjnejlkkcaaGreatDoor

import Derived.Test.YtkgfanibfkdbfaaGreatDoorLPrintsY7
import Derived.SevenTiedAt
import Derived.Test.YtkgfanibfkdbfaaGreatDoorCards
import Derived.Test.YtkgfanibfkdbfaaGreatDoorTie
import Derived.ChangeMaps5
set_option maxRecDepth 100000
set_option maxHeartbeats 4000000
namespace Go.Proofs.YtkgfanibfkdbfaaGreatDoor
open Go.Proofs.Tryz
section
open Go Go.Eng Go.RowKit Go.ChangeShapes Go.WideShapes Go.ChangeAt Go.Joins
theorem Tryz.own:ownKnob Tryz.prog.godebug=none:=by kernel_rfl
theorem Tryz.laidOut:laidOutB prog=true:=by kernel_rfl
theorem c4H:Tryz.prog.cellsOf 313=3:=by kernel_rfl
abbrev b1i : List (String × DataW Unit) := [("math/bits.deBruijn32tab", Rows.laid_math_bits_deBruijn32tab), ("math/bits.deBruijn64tab", Rows.laid_math_bits_deBruijn64tab), ("internal/strconv.uint64pow10", Rows.laid_internal_strconv_uint64pow10), ("unicode/utf8.acceptRanges", Rows.laid_unicode_utf8_acceptRanges), ("transputer/types.primitive", Rows.laid_transputer_types_primitive), ("transputer/syntax.one", Rows.laid_transputer_syntax_one), ("transputer/syntax.some", Rows.laid_transputer_syntax_some), ("transputer/syntax.all", Rows.laid_transputer_syntax_all), ("unicode/utf8.first", Rows.laid_unicode_utf8_first)]
theorem b2M{W:World}{J6:Nat}{ys:List Value}{kd sz:Int}{wd:List UInt8}{p:List MemPlace}
 (h:DataW.trod (λ_=>()) prog W 0 (λ_=>true) false J6 313 ys=some (.agg [.lit (.int .u8 kd),.lit (.string wd),.lit (.int .i64 sz)],p)) :
 ys[0]?=some (.int .u8 kd)/\ys[1]?=some (str wd)/\ys[2]?=some (.int .i64 sz):=by
 obtain⟨f,hf⟩:=a8C b4M h;obtain⟨_,h0⟩:=hf 0 _ _ rfl rfl;obtain⟨_,h1⟩:=hf 1 _ _ rfl rfl;obtain⟨_,h2⟩:=hf 2 _ _ rfl rfl;exact⟨Eng.cell_of_cut (a7v b6V h0),Eng.cell_of_cut (c2A uu9 h1),Eng.cell_of_cut (a7v uu3 h2)⟩
theorem a4z{cs ys:List Value}{i j:Nat}{v:Value}(e:(cs.drop (i*3)).take 3=ys)(h:ys[j]?=some v):cs[i*3+j]?=some v:=by
 subst e;rw[List.getElem?_take]at h;split at h
 ·rwa [List.getElem?_drop]at h
 ·cases h
theorem b3Q{W:World}{J6:Nat}{ys:List Value}{a b:Int}{p:List MemPlace}(h:DataW.trod (λ_=>()) prog W 0 (λ_=>true) false J6 190 ys=some (.agg [.lit (.int .i64 a),.lit (.int .i64 b)],p)) :
 ∀(j:Nat)(v:Value),([.int .i64 a,.int .i64 b]:List Value)[j]?=some v->ys[j]?=some v:=by
 obtain⟨f,hf⟩:=a8C X4 h;obtain⟨_,h0⟩:=hf 0 _ _ rfl rfl;obtain⟨_,h1⟩:=hf 1 _ _ rfl rfl;have e0:=Eng.cell_of_cut (a7v uu3 h0);have e1:=Eng.cell_of_cut (a7v uu3 h1);intro j v hj;match j,hj with
 |0,hj=>cases hj;exact e0
 |1,hj=>cases hj;exact e1
theorem c4P{W:World}(h:laidMet prog b1i W)(hsh:W.ShapedOpen prog):Glob (K6 W):=by
 obtain⟨_,⟨_,_,_,_,_,_,_,_,_,_,⟨_,_,_,_,_,_,_,_,_,_,⟨_,_,_,_,_,_,_,_,_,_,⟨_,_,_,_,_,_,_,_,_,_,⟨g4,t4,cs4,f4,p4,q4,hg4,ht4,hv4,hd4,⟨g5,t5,cs5,f5,p5,q5,hg5,ht5,hv5,hd5,⟨g6,t6,cs6,f6,p6,q6,hg6,ht6,hv6,hd6,⟨g7,t7,cs7,f7,p7,q7,hg7,ht7,hv7,hd7,_,_⟩,_⟩,_⟩,_⟩,_⟩,_⟩,_⟩,_⟩,_⟩:=h;obtain rfl := Option.some.inj ((show Tryz.prog.globalNamed "transputer/types.primitive" = some 3 by kernel_rfl).symm.trans hg4);obtain rfl:=Option.some.inj ((show(Tryz.prog.globals[3]?).map (·.type)=some 314 by kernel_rfl).symm.trans ht4);obtain rfl := Option.some.inj ((show Tryz.prog.globalNamed "transputer/syntax.one" = some 1 by kernel_rfl).symm.trans hg5);obtain rfl:=Option.some.inj ((show(Tryz.prog.globals[1]?).map (·.type)=some 190 by kernel_rfl).symm.trans ht5);obtain rfl := Option.some.inj ((show Tryz.prog.globalNamed "transputer/syntax.some" = some 2 by kernel_rfl).symm.trans hg6)
 obtain rfl:=Option.some.inj ((show(Tryz.prog.globals[2]?).map (·.type)=some 190 by kernel_rfl).symm.trans ht6);obtain rfl := Option.some.inj ((show Tryz.prog.globalNamed "transputer/syntax.all" = some 0 by kernel_rfl).symm.trans hg7);obtain rfl:=Option.some.inj ((show(Tryz.prog.globals[0]?).map (·.type)=some 190 by kernel_rfl).symm.trans ht7);refine⟨(Tryz.laysM144.s1_3 W hsh).imp fun _ e=>a1F e,fun j v hj=>a1F ?_,fun j v hj=>a1F ?_,fun j v hj=>a1F ?_,fun j v hj=>a1F ?_⟩
 ·obtain⟨f,hf⟩:=b6s a8m hd4
  obtain⟨_,h0⟩:=hf 0 _ (by decide) rfl;obtain⟨_,h1⟩:=hf 1 _ (by decide) rfl;obtain⟨_,h2⟩:=hf 2 _ (by decide) rfl;rw[c4H]at h0 h1 h2;have a0:=b2M h0;have a1:=b2M h1;have a2:=b2M h2;rw[World.var?_cell hg4 hv4 j,<-Array.getElem?_toList];match j,hj with
  |0,hj=>cases hj;exact a4z (i:=0) rfl a0.1
  |1,hj=>cases hj;exact a4z (i:=0) rfl a0.2.1
  |2,hj=>cases hj;exact a4z (i:=0) rfl a0.2.2
  |3,hj=>cases hj;exact a4z (i:=1) rfl a1.1
  |4,hj=>cases hj;exact a4z (i:=1) rfl a1.2.1
  |5,hj=>cases hj;exact a4z (i:=1) rfl a1.2.2
  |6,hj=>cases hj;exact a4z (i:=2) rfl a2.1
  |7,hj=>cases hj;exact a4z (i:=2) rfl a2.2.1
  |8,hj=>cases hj;exact a4z (i:=2) rfl a2.2.2
 ·rw[World.var?_cell hg5 hv5 j,<-Array.getElem?_toList]
  exact b3Q hd5 j v hj
 ·rw[World.var?_cell hg6 hv6 j,<-Array.getElem?_toList]
  exact b3Q hd6 j v hj
 ·rw[World.var?_cell hg7 hv7 j,<-Array.getElem?_toList]
  exact b3Q hd7 j v hj
theorem c7x {W : World} (h : laidMet prog b1i W) : Lib.TabIs prog W "internal/strconv.uint64pow10" .u64 Lib.pow10Tab := by
 obtain⟨_,⟨_,_,_,_,_,_,_,_,_,_,⟨_,_,_,_,_,_,_,_,_,_,⟨g2,t2,cs2,f2,p2,q2,hg2,ht2,hv2,hd2,_,_⟩,_⟩,_⟩,_⟩:=h;have hg : Tryz.prog.globalNamed "internal/strconv.uint64pow10" = some 7 := by kernel_rfl
 have hty:(Tryz.prog.globals[7]?).map (·.type)=some 364:=by kernel_rfl
 obtain rfl:=Option.some.inj (hg.symm.trans hg2);obtain rfl:=Option.some.inj (hty.symm.trans ht2);unfold Lib.TabIs;rw[hv2,<-Lib.cells_of_tab (zs:=Lib.pow10Tab) c6G c6N (by kernel_rfl) (by kernel_rfl) hd2]
theorem c8f {W w : World} {h : List Res} (ht : Lib.TabIs prog W "internal/strconv.uint64pow10" .u64 Lib.pow10Tab) (st : St (K6 W) h w) : Lib.TabIs prog w "internal/strconv.uint64pow10" .u64 Lib.pow10Tab := by
 unfold Lib.TabIs World.var? at ht ⊢;cases hg : Tryz.prog.globalNamed "internal/strconv.uint64pow10" with
 |none=>rw[hg]at ht;cases ht
 |some g=>
  rw[hg]at ht;simp only[Option.bind_some]at ht⊢;cases hb:W.heap[g]? with
  |none=>rw[hb]at ht;cases ht
  |some o=>rw[st.blk g o hb,<-hb];exact ht
theorem c7L{W:World}(h:laidMet prog b1i W):Pow (K6 W):=λ_ _ st=>c8f (c7x h) st
noncomputable def d0a:DataW Unit->List Value
 | .lit (.int k z)=>[.int k z]
 |_=>[]
noncomputable def d01:DataW Unit->List Value
 | .lit (.int k z)=>[.int k z]
 | .agg ds=>ds.flatMap d0a
 |_=>[]
noncomputable def c0P:DataW Unit->Array Value
 | .agg ds=>(ds.flatMap d01).toArray
 |_=>#[]
noncomputable def b3F (g:Nat) (vs:Array Value) (hp:Array Obj):Array Obj:=hp.modify g fun
 | .cells _ t fz=>.cells vs t fz
 |o=>o
noncomputable def b1K (os:Os):World:=
 { World.holding prog os ⟨#[],#[],[]⟩with heap:=b3F 8 (c0P Rows.laid_math_bits_deBruijn32tab) (b3F 9 (c0P Rows.laid_math_bits_deBruijn64tab) (b3F 7 (c0P Rows.laid_internal_strconv_uint64pow10) (b3F 6 (c0P Rows.laid_unicode_utf8_acceptRanges) (b3F 5 (c0P Rows.laid_unicode_utf8_first) (b3F 3 c6K.toArray (b3F 1 b0s.toArray (b3F 2 a8y.toArray (b3F 0 c5w.toArray (World.holding prog os ⟨#[],#[],[]⟩).heap)))))))) }
theorem b0S(os:Os)(args:Array Value):laidMet prog b1i ((b1K os).forCall (λ_ _=>0) ⟨#[],args,[]⟩).memory:=
 laidMet_of_run' 8 (by kernel_rfl) (by kernel_rfl)
end
section
open Go Go.Eng Go.Ty Go.Xp Go.RowKit Go.ChangeShapes Go.WideShapes Go.ChangeAt Go.Joins
variable {H:Type}{enc:TypeId×Value->H}{W:World}
theorem a8c:Tryz.prog.cellsOf 28=6:=by kernel_rfl
theorem c5m:∀(J6:Nat){cs:List Value}{x:DataW H×List MemPlace},RdT enc prog W true J6 28 cs x->(∀q∈x.1.weights prog 28,q<=reachBytes)->∃e:Ex,cs=exE e/\TOk (K6 W) [] e/\Wf e:=by
 intro J6;induction J6 using Nat.strongRecOn with
 |_ J6 ih=>
 intro cs x hr hw;obtain⟨hl,f,hfu,hf⟩:=V7 a2i hr;rw[a8c]at hl;match cs,hl with
 | [c0,c1,c2,c3,c4,c5],_=>
  obtain⟨_,_,h0,_⟩:=hf _ (.head _);obtain⟨_,_,h1,_⟩:=hf _ (.tail _ (.head _));obtain⟨_,_,h2,_⟩:=hf _ (.tail _ (.tail _ (.head _)));obtain⟨_,_,h3,_⟩:=hf _ (.tail _ (.tail _ (.tail _ (.head _))));obtain⟨_,_,h4,k4⟩:=hf _ (.tail _ (.tail _ (.tail _ (.tail _ (.head _)))));obtain⟨d5,p5,h5,k5⟩:=hf _ (.tail _ (.tail _ (.tail _ (.tail _ (.tail _ (.head _))))));obtain⟨n0,e0,w0⟩:=a2f c9L h0;obtain⟨n1,e1,w1⟩:=a2f c7e h1;obtain⟨n2,e2,w2⟩:=a2f b6V h2;obtain⟨n3,e3,w3⟩:=a2f a1X h3;obtain⟨n4,e4,w4⟩:=b3E uu9 h4;obtain⟨a,n,c,l,e5,hll,hs,hp⟩:=V5 (Pr:=λe:Ex=>TOk (K6 W) [] e/\Wf e) (enc':=exE) c5y a8c (by decide) a1h (λg ys y hg hy hk=>by
   obtain⟨e,he1,he2⟩:=ih g (by omega) hy λq hq=>hw q (k5 q (hk q hq))
   exact⟨e,he1,he2⟩) h5
  obtain rfl:c0=.int .u8 n0:=List.head_eq_of_cons_eq e0;obtain rfl:c1=.int .u8 n1:=List.head_eq_of_cons_eq e1;obtain rfl:c2=.int .u8 n2:=List.head_eq_of_cons_eq e2;obtain rfl:c3=.int .i32 n3:=List.head_eq_of_cons_eq e3;obtain rfl:c4=str n4:=List.head_eq_of_cons_eq e4;obtain rfl:c5=.slice a n c:=List.head_eq_of_cons_eq e5;subst hll;have u0:0<=n0/\n0<=255:=by simpa [Lit.wf,show IntKind.u8.min=0 from rfl,show IntKind.u8.max=255 from rfl]using w0
  have u1:0<=n1/\n1<=255:=by simpa [Lit.wf,show IntKind.u8.min=0 from rfl,show IntKind.u8.max=255 from rfl]using w1
  have u2:0<=n2/\n2<=255:=by simpa [Lit.wf,show IntKind.u8.min=0 from rfl,show IntKind.u8.max=255 from rfl]using w2
  have u3:-2147483648<=n3/\n3<=2147483647:=by simp[Lit.wf]at w3;exact w3
  exact⟨.mk n0 n1 n2 n3 n4 a c l,rfl,.mk (Rd.ofSl hs) λy hy=>(hp y hy).1,.mk u0 u1 u2 u3 (Nat.le_trans (hw _ (k4 _ w4)) (by decide)) λy hy=>(hp y hy).2⟩
end
section
open Go.Xp hiding B
open Go Go.Eng Go.Ty Go.Pc Go.RowKit Go.ChangeShapes Go.WideShapes Go.ChangeAt Go.Joins
open Go.Lx (encB encB_len)
variable {H:Type}{enc:TypeId×Value->H}{W:World}
abbrev Wt(x:DataW H×List MemPlace)(t:TypeId):Prop:=∀q∈x.1.weights prog t,q<=reachBytes
theorem G0(cs:List Value)(i n:Nat):cs.drop i=(cs.drop i).take n++cs.drop (i+n):=by rw[<-List.drop_drop,List.take_append_drop]
theorem c2S:Tryz.prog.cellsOf 9=1:=by kernel_rfl
theorem c2n:Tryz.prog.cellsOf 3=1:=by kernel_rfl
theorem c6i:Tryz.prog.cellsOf 36=4:=by kernel_rfl
theorem b8o:Tryz.prog.cellsOf 141=2:=by kernel_rfl
theorem c5j:Tryz.prog.cellsOf 25=1:=by kernel_rfl
theorem c5W:Tryz.prog.cellsOf 40=2:=by kernel_rfl
theorem b8e:Tryz.prog.cellsOf 129=6:=by kernel_rfl
theorem c5K:Tryz.prog.cellsOf 30=13:=by kernel_rfl
theorem c5l:Tryz.prog.cellsOf 43=16:=by kernel_rfl
theorem b89:Tryz.prog.cellsOf 100=23:=by kernel_rfl
theorem b8g:Tryz.prog.cellsOf 45=42:=by kernel_rfl
theorem b4c{n:Int}(w:(Lit.int .u8 n).wf=true):0<=n/\n<=255:=by simpa [Lit.wf,show IntKind.u8.min=0 from rfl,show IntKind.u8.max=255 from rfl]using w
theorem c0v{n:Int}(w:(Lit.int .i64 n).wf=true):-9223372036854775808<=n/\n<=9223372036854775807:=by simp[Lit.wf]at w;exact w
theorem b4j{J6:Nat}{cs:List Value}{x:DataW H×List MemPlace}(hr:RdT enc prog W true J6 36 cs x)(hw:Wt x 36):∃t:Ty,cs=I7 t/\TyW t:=by
 obtain⟨hl,f,_,hf⟩:=V7 a8H hr;rw[c6i]at hl;match cs,hl with
 | [c0,c1,c2,c3],_=>obtain⟨_,_,h0,_⟩:=hf _ (.head _);obtain⟨_,_,h1,_⟩:=hf _ (.tail _ (.head _));obtain⟨_,_,h2,_⟩:=hf _ (.tail _ (.tail _ (.head _)));obtain⟨_,_,h3,k3⟩:=hf _ (.tail _ (.tail _ (.tail _ (.head _))));obtain⟨n0,e0,w0⟩:=a2f b6V h0;obtain⟨n1,e1,w1⟩:=a2f uu3 h1;obtain⟨n2,e2,w2⟩:=a2f b6V h2;obtain⟨n3,e3,w3⟩:=b3E uu9 h3;obtain rfl:c0=.int .u8 n0:=List.head_eq_of_cons_eq e0;obtain rfl:c1=.int .i64 n1:=List.head_eq_of_cons_eq e1;obtain rfl:c2=.int .u8 n2:=List.head_eq_of_cons_eq e2;obtain rfl:c3=str n3:=List.head_eq_of_cons_eq e3;exact⟨⟨n0,n1,n2,n3⟩,rfl,b4c w0,b4c w2,c0v w1,Nat.le_trans (hw _ (k3 _ w3)) (by decide)⟩
theorem a2I{J6:Nat}{cs:List Value}{x:DataW H×List MemPlace}(hr:RdT enc prog W true J6 9 cs x)(hw:Wt x 9):∃s:List UInt8,cs=encB s/\s.length<=Big:=by obtain⟨s,e,w⟩:=b3E uu9 hr;exact⟨s,e,Nat.le_trans (hw _ w) (by decide)⟩
theorem c4f{J6:Nat}{cs:List Value}{x:DataW H×List MemPlace}(hr:RdT enc prog W true J6 129 cs x)(hw:Wt x 129):∃f:Fo,cs=foE f/\FoW f:=by
 obtain⟨hl,f,_,hf⟩:=V7 b2i hr;rw[b8e]at hl;obtain⟨_,_,h0,_⟩:=hf _ (.head _);obtain⟨_,_,h1,k1⟩:=hf _ (.tail _ (.head _));obtain⟨_,_,h2,k2⟩:=hf _ (.tail _ (.tail _ (.head _)));obtain⟨b,e0⟩:=b8b uu4 h0;obtain⟨t,e1,w1⟩:=b4j h1 λq hq=>hw q (k1 q hq)
 obtain⟨s,e2,w2⟩:=a2I h2 λq hq=>hw q (k2 q hq)
 refine⟨⟨b,t,s⟩,?_,w1,w2⟩;have h:cs.drop 6=[]:=List.drop_eq_nil_of_le (by omega);rw[show cs=cs.drop 0 from rfl,G0 cs 0 1,show(cs.drop 0).take 1=_ from e0,G0 cs 1 4,show(cs.drop (0+1)).take 4=_ from e1,G0 cs 5 1,show(cs.drop (1+4)).take 1=_ from e2,h];rfl
theorem a1V{J6:Nat}{cs:List Value}{x:DataW H×List MemPlace}(hr:RdT enc prog W true J6 28 cs x)(hw:Wt x 28):∃e:Ex,cs=exE e/\EOk (K6 W) [] e:=by obtain⟨e,h1,h2,h3⟩:=c5m J6 hr hw;exact⟨e,h1,h2,h3⟩
theorem a7d{J6:Nat}{cs:List Value}{x:DataW H×List MemPlace}(hr:RdT enc prog W true J6 26 cs x)(hw:Wt x 26):∃s:Sli Ex,cs=[.slice s.a s.l.length s.c]/\LOk (K6 W) [] s:=by obtain⟨a,n,c,l,e,hl,hs,hp⟩:=V5 (Pr:=λe:Ex=>EOk (K6 W) [] e) (enc':=exE) c5y a8c (by decide) a1h (λg ys y _ hy hk=>a1V hy λq hq=>hw q (hk q hq)) hr;subst hl;exact⟨⟨a,c,l⟩,e,Rd.ofSl hs,hp⟩
theorem b9u{J6:Nat}{cs:List Value}{x:DataW H×List MemPlace}(hr:RdT enc prog W true J6 37 cs x)(hw:Wt x 37):∃s:Sli B,cs=[.slice s.a s.l.length s.c]/\Rd (K6 W) [] s.a s.l.length s.c 1 (fl encB s.l)/\∀x∈s.l,x.length<=Big:=by obtain⟨a,n,c,l,e,hl,hs,hp⟩:=V5 (Pr:=λx:B=>x.length<=Big) (enc':=encB) c9A c2S (by decide) encB_len (λg ys y _ hy hk=>a2I hy λq hq=>hw q (hk q hq)) hr;subst hl;exact⟨⟨a,c,l⟩,e,Rd.ofSl hs,hp⟩
theorem b9K{J6:Nat}{cs:List Value}{x:DataW H×List MemPlace}(hr:RdT enc prog W true J6 33 cs x):∃s:Sli Int,cs=[.slice s.a s.l.length s.c]/\Rd (K6 W) [] s.a s.l.length s.c 1 (fl a3G s.l)/\∀x∈s.l,-9223372036854775808<=x/\x<=9223372036854775807:=by
 obtain⟨a,n,c,l,e,hl,hs,hp⟩:=V5 (Pr:=λx:Int=>-9223372036854775808<=x/\x<=9223372036854775807) (enc':=a3G) c9l c2n (by decide) a4a (λg ys y _ hy _=>by
  obtain⟨n,e,w⟩:=a2f uu3 hy;exact⟨n,e,c0v w⟩) hr
 subst hl;exact⟨⟨a,c,l⟩,e,Rd.ofSl hs,hp⟩
theorem c2P{J6:Nat}{cs:List Value}{x:DataW H×List MemPlace}(hr:RdT enc prog W true J6 41 cs x)(hw:Wt x 41):∃s:Sli Fo,cs=[.slice s.a s.l.length s.c]/\Rd (K6 W) [] s.a s.l.length s.c 6 (fl foE s.l)/\∀x∈s.l,FoW x:=by obtain⟨a,n,c,l,e,hl,hs,hp⟩:=V5 (Pr:=λx:Fo=>FoW x) (enc':=foE) c9d b8e (by decide) a2w (λg ys y _ hy hk=>c4f hy λq hq=>hw q (hk q hq)) hr;subst hl;exact⟨⟨a,c,l⟩,e,Rd.ofSl hs,hp⟩
theorem c4Z{J6:Nat}{cs:List Value}{x:DataW H×List MemPlace}(hr:RdT enc prog W true J6 30 cs x)(hw:Wt x 30):∃r:Rp,cs=rpE r/\r.name.length<=Big/\EOk (K6 W) [] r.base/\EOk (K6 W) [] r.count:=by
 obtain⟨hl,f,_,hf⟩:=V7 c6j hr;rw[c5K]at hl;obtain⟨_,_,h0,k0⟩:=hf _ (.head _);obtain⟨_,_,h1,k1⟩:=hf _ (.tail _ (.head _));obtain⟨_,_,h2,k2⟩:=hf _ (.tail _ (.tail _ (.head _)));obtain⟨s,e0,w0⟩:=a2I h0 λq hq=>hw q (k0 q hq)
 obtain⟨b,e1,w1⟩:=a1V h1 λq hq=>hw q (k1 q hq)
 obtain⟨c,e2,w2⟩:=a1V h2 λq hq=>hw q (k2 q hq)
 refine⟨⟨s,b,c⟩,?_,w0,w1,w2⟩;have h:cs.drop 13=[]:=List.drop_eq_nil_of_le (by omega);rw[show cs=cs.drop 0 from rfl,G0 cs 0 1,show(cs.drop 0).take 1=_ from e0,G0 cs 1 6,show(cs.drop (0+1)).take 6=_ from e1,G0 cs 7 6,show(cs.drop (1+6)).take 6=_ from e2,h];rfl
theorem c1I{J6:Nat}{cs:List Value}{x:DataW H×List MemPlace}(hr:RdT enc prog W true J6 141 cs x)(hw:Wt x 141):∃v:Vr,cs=encV v/\(VOk (K6 W) [] v/\v.tag.length<=9223372036854775807)/\v.items.length=v.n:=by
 obtain⟨hl,f,_,hf⟩:=V7 a7p hr;rw[b8o]at hl;match cs,hl with
 | [c0,c1],_=>
  obtain⟨_,_,h0,k0⟩:=hf _ (.head _);obtain⟨_,_,h1,k1⟩:=hf _ (.tail _ (.head _));obtain⟨n0,e0,w0⟩:=a2I h0 λq hq=>hw q (k0 q hq)
  obtain⟨a,n,c,l,e1,hll,hs,_⟩:=V5 (Pr:=λ_:Int=>True) (enc':=M8) a9J c5j (by decide) D3 (λg ys y _ hy _=>by
   obtain⟨n,e,_⟩:=a2f b6V hy;exact⟨n,e,trivial⟩) h1
  obtain rfl:c0=str n0:=List.head_eq_of_cons_eq e0;obtain rfl:c1=.slice a n c:=List.head_eq_of_cons_eq e1;exact⟨⟨n0,a,n,c,l⟩,rfl,⟨⟨Rd.ofSl hs⟩,Nat.le_trans w0 (by decide)⟩,hll⟩
theorem c4J{J6:Nat}{cs:List Value}{x:DataW H×List MemPlace}(hr:RdT enc prog W true J6 40 cs x)(hw:Wt x 40):∃(b:Bool)(s:Sli Vr),cs=[.bool b,.slice s.a s.l.length s.c]/\PrOk (K6 W) [] s.a s.l.length s.c s.l/\∀x∈s.l,x.items.length=x.n:=by
 obtain⟨hl,f,_,hf⟩:=V7 b9P hr;rw[c5W]at hl;match cs,hl with
 | [c0,c1],_=>obtain⟨_,_,h0,_⟩:=hf _ (.head _);obtain⟨_,_,h1,k1⟩:=hf _ (.tail _ (.head _));obtain⟨b,e0⟩:=b8b uu4 h0;obtain⟨a,n,c,l,e1,hll,hs,hp⟩:=V5 (Pr:=λv:Vr=>(VOk (K6 W) [] v/\v.tag.length<=9223372036854775807)/\v.items.length=v.n) (enc':=encV) c6l b8o (by decide) D2 (λg ys y _ hy hk=>c1I hy λq hq=>hw q (k1 q (hk q hq))) h1;obtain rfl:c0=.bool b:=List.head_eq_of_cons_eq e0;obtain rfl:c1=.slice a n c:=List.head_eq_of_cons_eq e1;subst hll;exact⟨b,⟨a,c,l⟩,rfl,⟨Rd.ofSl hs,λv hv=>(hp v hv).1.1,λv hv=>(hp v hv).1.2⟩,λv hv=>(hp v hv).2⟩
abbrev PsR(J6:Nat):Prop:=∀g,g<J6->∀{cs:List Value}{x:DataW H×List MemPlace},RdT enc prog W true g 45 cs x->Wt x 45->∃p:Pr,cs=prE p/\POk (K6 W) [] p
theorem b0d{J6:Nat}(ih:PsR (enc:=enc) (W:=W) J6){cs:List Value}{x:DataW H×List MemPlace}(hr:RdT enc prog W true J6 32 cs x)(hw:Wt x 32) :
 ∃a c l,cs=[.slice a l.length c]/\Rd (K6 W) [] a l.length c 42 (fl prE l)/\∀p∈l,POk (K6 W) [] p:=by
 obtain⟨a,n,c,l,e,hl,hs,hp⟩:=V5 (Pr:=λp:Pr=>POk (K6 W) [] p) (enc':=prE) c6t b8g (by decide) a2r (λg ys y hg hy hk=>ih g hg hy λq hq=>hw q (hk q hq)) hr;subst hl;exact⟨a,c,l,e,Rd.ofSl hs,hp⟩
theorem PsR.less{f g:Nat}(ih:PsR (enc:=enc) (W:=W) f)(h:g<=f):PsR (enc:=enc) (W:=W) g:=λk hk=>ih k (Nat.lt_of_lt_of_le hk h)
theorem c4N{J6:Nat}(ih:PsR (enc:=enc) (W:=W) J6){cs:List Value}{x:DataW H×List MemPlace}(hr:RdT enc prog W true J6 43 cs x)(hw:Wt x 43) :
 ∃s:Sp,cs=spE s/\SOk (K6 W) [] s/\∀p∈s.bl,POk (K6 W) [] p:=by
 obtain⟨hl,f,hfu,hf⟩:=V7 a7B hr;rw[c5l]at hl;obtain⟨_,_,h0,_⟩:=hf _ (.head _);obtain⟨_,_,h1,k1⟩:=hf _ (.tail _ (.head _));obtain⟨_,_,h2,k2⟩:=hf _ (.tail _ (.tail _ (.head _)));obtain⟨_,_,h3,k3⟩:=hf _ (.tail _ (.tail _ (.tail _ (.head _))));obtain⟨_,_,h4,k4⟩:=hf _ (.tail _ (.tail _ (.tail _ (.tail _ (.head _)))));obtain⟨_,_,h5,k5⟩:=hf _ (.tail _ (.tail _ (.tail _ (.tail _ (.tail _ (.head _))))));obtain⟨_,_,h6,k6⟩:=hf _ (.tail _ (.tail _ (.tail _ (.tail _ (.tail _ (.tail _ (.head _)))))));obtain⟨n0,e0,w0⟩:=a2f c9i h0;obtain⟨t1,e1,w1⟩:=b4j h1 λq hq=>hw q (k1 q hq)
 obtain⟨s2,e2,r2,w2⟩:=b9u h2 λq hq=>hw q (k2 q hq)
 obtain⟨x3,e3,w3⟩:=a1V h3 λq hq=>hw q (k3 q hq)
 obtain⟨b4,s4,e4,r4,w4⟩:=c4J h4 λq hq=>hw q (k4 q hq)
 obtain⟨s5,e5,r5,w5⟩:=c2P h5 λq hq=>hw q (k5 q hq)
 obtain⟨a6,c6,l6,e6,r6,w6⟩:=b0d (ih.less (by omega)) h6 λq hq=>hw q (k6 q hq)
 refine⟨.mk n0 t1 s2 x3 b4 s4 s5 a6 c6 l6,?_,⟨b4c w0,w1,r2,w2,w3,r4,w4,r5,w5,r6⟩,w6⟩;have h:cs.drop 16=[]:=List.drop_eq_nil_of_le (by omega);rw[show cs=cs.drop 0 from rfl,G0 cs 0 1,show(cs.drop 0).take 1=_ from e0,G0 cs 1 4,show(cs.drop (0+1)).take 4=_ from e1,G0 cs 5 1,show(cs.drop (1+4)).take 1=_ from e2,
  G0 cs 6 6,show(cs.drop (5+1)).take 6=_ from e3,G0 cs 12 2,show(cs.drop (6+6)).take 2=_ from e4,G0 cs 14 1,show(cs.drop (12+2)).take 1=_ from e5,G0 cs 15 1,show(cs.drop (14+1)).take 1=_ from e6,h]
 rfl
theorem c5G{J6:Nat}(ih:PsR (enc:=enc) (W:=W) J6){cs:List Value}{x:DataW H×List MemPlace}(hr:RdT enc prog W true J6 100 cs x)(hw:Wt x 100) :
 ∃g:Gu,cs=guE g/\GOk (K6 W) [] g/\∀p∈g.bl,POk (K6 W) [] p:=by
 obtain⟨hl,f,hfu,hf⟩:=V7 a3w hr;rw[b89]at hl;obtain⟨_,_,h0,_⟩:=hf _ (.head _);obtain⟨_,_,h1,k1⟩:=hf _ (.tail _ (.head _));obtain⟨_,_,h2,k2⟩:=hf _ (.tail _ (.tail _ (.head _)));obtain⟨_,_,h3,k3⟩:=hf _ (.tail _ (.tail _ (.tail _ (.head _))));obtain⟨_,_,h4,k4⟩:=hf _ (.tail _ (.tail _ (.tail _ (.tail _ (.head _)))));obtain⟨_,_,h5,k5⟩:=hf _ (.tail _ (.tail _ (.tail _ (.tail _ (.tail _ (.head _))))));obtain⟨_,_,h6,k6⟩:=hf _ (.tail _ (.tail _ (.tail _ (.tail _ (.tail _ (.tail _ (.head _)))))));obtain⟨_,_,h7,k7⟩:=hf _ (.tail _ (.tail _ (.tail _ (.tail _ (.tail _ (.tail _ (.tail _ (.head _))))))));obtain⟨n0,e0,w0⟩:=a2f b8U h0;obtain⟨s1,e1,w1⟩:=a2I h1 λq hq=>hw q (k1 q hq)
 obtain⟨x2,e2,w2⟩:=a1V h2 λq hq=>hw q (k2 q hq)
 obtain⟨x3,e3,w3⟩:=a1V h3 λq hq=>hw q (k3 q hq)
 obtain⟨s4,e4,w4⟩:=a7d h4 λq hq=>hw q (k4 q hq)
 obtain⟨s5,e5,w5⟩:=a7d h5 λq hq=>hw q (k5 q hq)
 obtain⟨x6,e6,w6⟩:=a1V h6 λq hq=>hw q (k6 q hq)
 obtain⟨a7,c7,l7,e7,r7,w7⟩:=b0d (ih.less (by omega)) h7 λq hq=>hw q (k7 q hq)
 refine⟨.mk n0 s1 x2 x3 s4 s5 x6 a7 c7 l7,?_,⟨b4c w0,w1,w2,w3,w4,w5,w6,r7⟩,w7⟩;have h:cs.drop 23=[]:=List.drop_eq_nil_of_le (by omega);rw[show cs=cs.drop 0 from rfl,G0 cs 0 1,show(cs.drop 0).take 1=_ from e0,G0 cs 1 1,show(cs.drop (0+1)).take 1=_ from e1,G0 cs 2 6,show(cs.drop (1+1)).take 6=_ from e2,
  G0 cs 8 6,show(cs.drop (2+6)).take 6=_ from e3,G0 cs 14 1,show(cs.drop (8+6)).take 1=_ from e4,G0 cs 15 1,show(cs.drop (14+1)).take 1=_ from e5,G0 cs 16 6,show(cs.drop (15+1)).take 6=_ from e6,G0 cs 22 1,show(cs.drop (16+6)).take 1=_ from e7,h]
 rfl
theorem c1c{J6:Nat}(ih:PsR (enc:=enc) (W:=W) J6){cs:List Value}{x:DataW H×List MemPlace}(hr:RdT enc prog W true J6 31 cs x)(hw:Wt x 31) :
 ∃a c l,cs=[.slice a l.length c]/\Rd (K6 W) [] a l.length c 23 (fl guE l)/\∀g∈l,GOk (K6 W) [] g/\∀p∈g.bl,POk (K6 W) [] p:=by
 obtain⟨a,n,c,l,e,hl,hs,hp⟩:=V5 (Pr:=λg:Gu=>GOk (K6 W) [] g/\∀p∈g.bl,POk (K6 W) [] p) (enc':=guE) c9z b89 (by decide) a1J (λg ys y hg hy hk=>c5G (ih.less (by omega)) hy λq hq=>hw q (hk q hq)) hr;subst hl;exact⟨a,c,l,e,Rd.ofSl hs,hp⟩
theorem c5z:∀(J6:Nat){cs:List Value}{x:DataW H×List MemPlace},RdT enc prog W true J6 45 cs x->Wt x 45->∃p:Pr,cs=prE p/\POk (K6 W) [] p:=by
 intro J6;induction J6 using Nat.strongRecOn with
 |_ J6 ih=>
 intro cs x hr hw;replace ih:PsR (enc:=enc) (W:=W) J6:=λg hg=>ih g hg
 obtain⟨hl,f,hfu,hf⟩:=V7 S9 hr;rw[b8g]at hl;obtain⟨_,_,h0,_⟩:=hf _ (.head _);obtain⟨_,_,h1,k1⟩:=hf _ (.tail _ (.head _));obtain⟨_,_,h2,k2⟩:=hf _ (.tail _ (.tail _ (.head _)));obtain⟨_,_,h3,k3⟩:=hf _ (.tail _ (.tail _ (.tail _ (.head _))));obtain⟨_,_,h4,k4⟩:=hf _ (.tail _ (.tail _ (.tail _ (.tail _ (.head _)))));obtain⟨_,_,h5,k5⟩:=hf _ (.tail _ (.tail _ (.tail _ (.tail _ (.tail _ (.head _))))));obtain⟨_,_,h6,k6⟩:=hf _ (.tail _ (.tail _ (.tail _ (.tail _ (.tail _ (.tail _ (.head _)))))));obtain⟨_,_,h7,k7⟩:=hf _ (.tail _ (.tail _ (.tail _ (.tail _ (.tail _ (.tail _ (.tail _ (.head _))))))));obtain⟨_,_,h8,_⟩:=hf _ (.tail _ (.tail _ (.tail _ (.tail _ (.tail _ (.tail _ (.tail _ (.tail _ (.head _)))))))));obtain⟨_,_,h9,k9⟩:=hf _ (.tail _ (.tail _ (.tail _ (.tail _ (.tail _ (.tail _ (.tail _ (.tail _ (.tail _ (.head _))))))))));obtain⟨n0,e0,w0⟩:=a2f c8X h0
 obtain⟨s1,e1,w1⟩:=a2I h1 λq hq=>hw q (k1 q hq)
 obtain⟨x2,e2,w2⟩:=a1V h2 λq hq=>hw q (k2 q hq)
 obtain⟨s3,e3,w3⟩:=a7d h3 λq hq=>hw q (k3 q hq)
 obtain⟨s4,e4,w4⟩:=a7d h4 λq hq=>hw q (k4 q hq)
 obtain⟨r5,e5,w5,wb5,wc5⟩:=c4Z h5 λq hq=>hw q (k5 q hq)
 obtain⟨a6,c6,l6,e6,r6,w6⟩:=c1c (ih.less (by omega)) h6 λq hq=>hw q (k6 q hq)
 obtain⟨a7,c7,l7,e7,r7,w7⟩:=b0d (ih.less (by omega)) h7 λq hq=>hw q (k7 q hq)
 obtain⟨s8,e8,r8,w8⟩:=b9K h8;obtain⟨s9,e9,r9,w9⟩:=c4N (ih.less (by omega)) h9 λq hq=>hw q (k9 q hq)
 refine⟨.mk n0 s1 x2 s3 s4 r5 a6 c6 l6 a7 c7 l7 s8 s9,?_,.mk ⟨b4c w0,w1,w2,w3,w4,w5,wb5,wc5,r6,λg hg=>(w6 g hg).1,r7,r8,w8,r9⟩ λy hy=>?_⟩
 ·have h:cs.drop 42=[]:=List.drop_eq_nil_of_le (by omega)
  rw[show cs=cs.drop 0 from rfl,G0 cs 0 1,show(cs.drop 0).take 1=_ from e0,G0 cs 1 1,show(cs.drop (0+1)).take 1=_ from e1,G0 cs 2 6,show(cs.drop (1+1)).take 6=_ from e2,
   G0 cs 8 1,show(cs.drop (2+6)).take 1=_ from e3,G0 cs 9 1,show(cs.drop (8+1)).take 1=_ from e4,G0 cs 10 13,show(cs.drop (9+1)).take 13=_ from e5,G0 cs 23 1,show(cs.drop (10+13)).take 1=_ from e6,
   G0 cs 24 1,show(cs.drop (23+1)).take 1=_ from e7,G0 cs 25 1,show(cs.drop (24+1)).take 1=_ from e8,G0 cs 26 16,show(cs.drop (25+1)).take 16=_ from e9,h]
  rfl
 ·cases hy with
  |l h=>exact w7 y h
  |s h=>exact w9 y h
  |g hg h=>exact(w6 _ hg).2 y h
theorem c7g{r:Reach}{base:Nat}{v:Value}{d:DataW H}{p:List MemPlace}(hv:Value.okWide prog W r base 45 v)(h:DataW.Trod enc prog W 0 (λ_=>true) true 45 v d p)(hw:∀q∈d.weights prog 45,q<=reachBytes) :
 ∃x:Pr,v=prV x/\POk (K6 W) [] x:=by
 obtain⟨cs,rfl,_⟩:=okWide_struct S9 hv;obtain⟨J6,hf⟩:=h;obtain⟨e,he,ht⟩:=c5z J6 (x:=(d,p)) hf hw;refine⟨e,?_,ht⟩;unfold Pc.prV;rw[<-show cs.toList=prE e from he]
end
end Go.Proofs.YtkgfanibfkdbfaaGreatDoor

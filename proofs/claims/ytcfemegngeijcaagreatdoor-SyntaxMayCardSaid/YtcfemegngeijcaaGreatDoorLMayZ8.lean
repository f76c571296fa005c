import Derived.Test.YtcfemegngeijcaaGreatDoorLMayZ7
import Derived.SevenTiedAt
import Derived.Test.YtcfemegngeijcaaGreatDoorCards
import Derived.Test.YtcfemegngeijcaaGreatDoorTie
import Derived.ChangeMaps5
section
namespace Go.Proofs.YtcfemegngeijcaaGreatDoor
set_option maxRecDepth 100000
set_option maxHeartbeats 2000000
open Go Go.Eng Go.RowKit Go.ChangeShapes Go.WideShapes Go.ChangeAt Go.Joins
theorem Tryz.own:ownKnob Tryz.prog.godebug=none:=by kernel_rfl
theorem Tryz.laidOut:laidOutB Tryz.prog=true:=by kernel_rfl
theorem c2b:Tryz.prog.cellsOf 252=3:=by kernel_rfl
abbrev a9M : List (String × DataW Unit) := [("math/bits.deBruijn32tab", Rows.laid_math_bits_deBruijn32tab), ("math/bits.deBruijn64tab", Rows.laid_math_bits_deBruijn64tab), ("internal/strconv.uint64pow10", Rows.laid_internal_strconv_uint64pow10), ("unicode/utf8.acceptRanges", Rows.laid_unicode_utf8_acceptRanges), ("transputer/types.primitive", Rows.laid_transputer_types_primitive), ("transputer/syntax.one", Rows.laid_transputer_syntax_one), ("transputer/syntax.some", Rows.laid_transputer_syntax_some), ("transputer/syntax.all", Rows.laid_transputer_syntax_all), ("unicode/utf8.first", Rows.laid_unicode_utf8_first)]
theorem b0F {W:World} {H7:Nat} {ys:List Value} {kd sz:Int} {wd:List UInt8} {p:List MemPlace}
   (h:DataW.trod (fun _=>()) Tryz.prog W 0 (fun _=>true) false H7 252 ys=some (.agg [.lit (.int .u8 kd),.lit (.string wd),.lit (.int .i64 sz)],p)) :
   ys[0]?=some (.int .u8 kd)∧ys[1]?=some (str wd)∧ys[2]?=some (.int .i64 sz):=by
 obtain⟨f,hf⟩:=a7m b2S h
 obtain⟨_,h0⟩:=hf 0 _ _ rfl rfl
 obtain⟨_,h1⟩:=hf 1 _ _ rfl rfl
 obtain⟨_,h2⟩:=hf 2 _ _ rfl rfl
 exact⟨Eng.cell_of_cut (a6r b3J h0),Eng.cell_of_cut (b9D uu9 h1),Eng.cell_of_cut (a6r uu3 h2)⟩
theorem a3w {cs ys:List Value} {i j:Nat} {v:Value} (e:(cs.drop (i * 3)).take 3=ys) (h:ys[j]?=some v):cs[i * 3+j]?=some v:=by
 subst e
 rw[List.getElem?_take] at h
 split at h
 · rwa [List.getElem?_drop] at h
 · cases h
theorem b0E {W:World} {H7:Nat} {ys:List Value} {a b:Int} {p:List MemPlace} (h:DataW.trod (fun _=>()) Tryz.prog W 0 (fun _=>true) false H7 91 ys=some (.agg [.lit (.int .i64 a),.lit (.int .i64 b)],p)) :
   ∀ (j:Nat) (v:Value),([.int .i64 a,.int .i64 b]:List Value)[j]?=some v→ys[j]?=some v:=by
 obtain⟨f,hf⟩:=a7m a1m h
 obtain⟨_,h0⟩:=hf 0 _ _ rfl rfl
 obtain⟨_,h1⟩:=hf 1 _ _ rfl rfl
 have e0:=Eng.cell_of_cut (a6r uu3 h0)
 have e1:=Eng.cell_of_cut (a6r uu3 h1)
 intro j v hj
 match j,hj with
 | 0,hj=>cases hj;exact e0
 | 1,hj=>cases hj;exact e1
theorem c0T {W:World} (h:laidMet Tryz.prog a9M W) (hsh:W.ShapedOpen Tryz.prog):Glob (I3 W):=by
 obtain⟨_,⟨_,_,_,_,_,_,_,_,_,_,⟨_,_,_,_,_,_,_,_,_,_,⟨_,_,_,_,_,_,_,_,_,_,⟨_,_,_,_,_,_,_,_,_,_,⟨g4,t4,cs4,f4,p4,q4,hg4,ht4,hv4,hd4,⟨g5,t5,cs5,f5,p5,q5,hg5,ht5,hv5,hd5,⟨g6,t6,cs6,f6,p6,q6,hg6,ht6,hv6,hd6,⟨g7,t7,cs7,f7,p7,q7,hg7,ht7,hv7,hd7,_,_⟩,_⟩,_⟩,_⟩,_⟩,_⟩,_⟩,_⟩,_⟩:=h
 obtain rfl := Option.some.inj ((show Tryz.prog.globalNamed "transputer/types.primitive" = some 3 by kernel_rfl).symm.trans hg4)
 obtain rfl:=Option.some.inj ((show(Tryz.prog.globals[3]?).map (·.type)=some 253 by kernel_rfl).symm.trans ht4)
 obtain rfl := Option.some.inj ((show Tryz.prog.globalNamed "transputer/syntax.one" = some 1 by kernel_rfl).symm.trans hg5)
 obtain rfl:=Option.some.inj ((show(Tryz.prog.globals[1]?).map (·.type)=some 91 by kernel_rfl).symm.trans ht5)
 obtain rfl := Option.some.inj ((show Tryz.prog.globalNamed "transputer/syntax.some" = some 2 by kernel_rfl).symm.trans hg6)
 obtain rfl:=Option.some.inj ((show(Tryz.prog.globals[2]?).map (·.type)=some 91 by kernel_rfl).symm.trans ht6)
 obtain rfl := Option.some.inj ((show Tryz.prog.globalNamed "transputer/syntax.all" = some 0 by kernel_rfl).symm.trans hg7)
 obtain rfl:=Option.some.inj ((show(Tryz.prog.globals[0]?).map (·.type)=some 91 by kernel_rfl).symm.trans ht7)
 refine⟨(Tryz.laysM144.s1_3 W hsh).imp fun _ e=>a0D e,fun j v hj=>a0D ?_,fun j v hj=>a0D ?_,fun j v hj=>a0D ?_,fun j v hj=>a0D ?_⟩
 · obtain⟨f,hf⟩:=b3B a7k hd4
   obtain⟨_,h0⟩:=hf 0 _ (by decide) rfl
   obtain⟨_,h1⟩:=hf 1 _ (by decide) rfl
   obtain⟨_,h2⟩:=hf 2 _ (by decide) rfl
   rw[c2b] at h0 h1 h2
   have a0:=b0F h0
   have a1:=b0F h1
   have a2:=b0F h2
   rw[World.var?_cell hg4 hv4 j,← Array.getElem?_toList]
   match j,hj with
   | 0,hj=>cases hj;exact a3w (i:=0) rfl a0.1
   | 1,hj=>cases hj;exact a3w (i:=0) rfl a0.2.1
   | 2,hj=>cases hj;exact a3w (i:=0) rfl a0.2.2
   | 3,hj=>cases hj;exact a3w (i:=1) rfl a1.1
   | 4,hj=>cases hj;exact a3w (i:=1) rfl a1.2.1
   | 5,hj=>cases hj;exact a3w (i:=1) rfl a1.2.2
   | 6,hj=>cases hj;exact a3w (i:=2) rfl a2.1
   | 7,hj=>cases hj;exact a3w (i:=2) rfl a2.2.1
   | 8,hj=>cases hj;exact a3w (i:=2) rfl a2.2.2
 · rw[World.var?_cell hg5 hv5 j,← Array.getElem?_toList]
   exact b0E hd5 j v hj
 · rw[World.var?_cell hg6 hv6 j,← Array.getElem?_toList]
   exact b0E hd6 j v hj
 · rw[World.var?_cell hg7 hv7 j,← Array.getElem?_toList]
   exact b0E hd7 j v hj
theorem c5i {W : World} (h : laidMet Tryz.prog a9M W) : Lib.TabIs Tryz.prog W "internal/strconv.uint64pow10" .u64 Lib.pow10Tab := by
 obtain⟨_,⟨_,_,_,_,_,_,_,_,_,_,⟨_,_,_,_,_,_,_,_,_,_,⟨g2,t2,cs2,f2,p2,q2,hg2,ht2,hv2,hd2,_,_⟩,_⟩,_⟩,_⟩:=h
 have hg : Tryz.prog.globalNamed "internal/strconv.uint64pow10" = some 7 := by kernel_rfl
 have hty:(Tryz.prog.globals[7]?).map (·.type)=some 301:=by kernel_rfl
 obtain rfl:=Option.some.inj (hg.symm.trans hg2)
 obtain rfl:=Option.some.inj (hty.symm.trans ht2)
 unfold Lib.TabIs
 rw[hv2,← Lib.cells_of_tab (zs:=Lib.pow10Tab) c3k c3w (by kernel_rfl) (by kernel_rfl) hd2]
theorem c3T {W w : World} {h : List Res} (ht : Lib.TabIs Tryz.prog W "internal/strconv.uint64pow10" .u64 Lib.pow10Tab) (st : St (I3 W) h w) : Lib.TabIs Tryz.prog w "internal/strconv.uint64pow10" .u64 Lib.pow10Tab := by
 unfold Lib.TabIs World.var? at ht ⊢
 cases hg : Tryz.prog.globalNamed "internal/strconv.uint64pow10" with
 | none=>rw[hg] at ht;cases ht
 | some g=>
   rw[hg] at ht
   simp only[Option.bind_some] at ht ⊢
   cases hb:W.heap[g]? with
   | none=>rw[hb] at ht;cases ht
   | some o=>rw[st.blk g o hb,← hb];exact ht
theorem c4r {W:World} (h:laidMet Tryz.prog a9M W):Pow (I3 W):=fun _ _ st=>c3T (c5i h) st
noncomputable def c6O:DataW Unit→List Value
 | .lit (.int k z)=>[.int k z]
 | _=>[]
noncomputable def c6U:DataW Unit→List Value
 | .lit (.int k z)=>[.int k z]
 | .agg ds=>ds.flatMap c6O
 | _=>[]
noncomputable def c0y:DataW Unit→Array Value
 | .agg ds=>(ds.flatMap c6U).toArray
 | _=>#[]
noncomputable def b1d (g : Nat) (vs : Array Value) (hp : Array Obj) : Array Obj := hp.modify g fun
     | .cells _ t fz=>.cells vs t fz
     | o=>o
noncomputable def b0u (os:Os):World:=
 { World.holding Tryz.prog os ⟨#[],#[],[]⟩ with heap:=b1d 8 (c0y Rows.laid_math_bits_deBruijn32tab) (b1d 9 (c0y Rows.laid_math_bits_deBruijn64tab) (b1d 7 (c0y Rows.laid_internal_strconv_uint64pow10) (b1d 6 (c0y Rows.laid_unicode_utf8_acceptRanges) (b1d 5 (c0y Rows.laid_unicode_utf8_first) (b1d 3 c3s.toArray (b1d 1 a9n.toArray (b1d 2 a7c.toArray (b1d 0 c0V.toArray (World.holding Tryz.prog os ⟨#[],#[],[]⟩).heap)))))))) }
theorem a9I (os:Os) (args:Array Value):laidMet Tryz.prog a9M ((b0u os).forCall (fun _ _=>0) ⟨#[],args,[]⟩).memory:=
 laidMet_of_run' 8 (by kernel_rfl) (by kernel_rfl)
end Go.Proofs.YtcfemegngeijcaaGreatDoor
end
section
namespace Go.Proofs.YtcfemegngeijcaaGreatDoor
set_option maxRecDepth 100000
set_option maxHeartbeats 2000000
open Go Go.Eng Go.Ty Go.Xp Go.RowKit Go.ChangeShapes Go.WideShapes Go.ChangeAt Go.Joins
variable {H:Type} {enc:TypeId × Value→H} {W:World}
theorem a6O:Tryz.prog.cellsOf 28=6:=by kernel_rfl
theorem c0Y:∀ (H7:Nat) {cs:List Value} {x:DataW H × List MemPlace},RdT enc Tryz.prog W true H7 28 cs x→(∀ q ∈ x.1.weights Tryz.prog 28,q≤reachBytes)→∃ e:Ex,cs=exE e∧TOk (I3 W) [] e∧Wf e:=by
 intro H7
 induction H7 using Nat.strongRecOn with
 | _ H7 ih=>
 intro cs x hr hw
 obtain⟨hl,f,hfu,hf⟩:=S6 a1k hr
 rw[a6O] at hl
 match cs,hl with
 | [c0,c1,c2,c3,c4,c5],_=>
   obtain⟨_,_,h0,_⟩:=hf _ (.head _)
   obtain⟨_,_,h1,_⟩:=hf _ (.tail _ (.head _))
   obtain⟨_,_,h2,_⟩:=hf _ (.tail _ (.tail _ (.head _)))
   obtain⟨_,_,h3,_⟩:=hf _ (.tail _ (.tail _ (.tail _ (.head _))))
   obtain⟨_,_,h4,k4⟩:=hf _ (.tail _ (.tail _ (.tail _ (.tail _ (.head _)))))
   obtain⟨d5,p5,h5,k5⟩:=hf _ (.tail _ (.tail _ (.tail _ (.tail _ (.tail _ (.head _))))))
   obtain⟨n0,e0,w0⟩:=a1j c5Y h0
   obtain⟨n1,e1,w1⟩:=a1j c3C h1
   obtain⟨n2,e2,w2⟩:=a1j b3J h2
   obtain⟨n3,e3,w3⟩:=a1j a3p h3
   obtain⟨n4,e4,w4⟩:=b1p uu9 h4
   obtain⟨a,n,c,l,e5,hll,hs,hp⟩:=S7 (Pr:=fun e:Ex=>TOk (I3 W) [] e∧Wf e) (enc':=exE) c2W a6O (by decide) a0Q (fun g ys y hg hy hk=>by
     obtain⟨e,he1,he2⟩:=ih g (by omega) hy fun q hq=>hw q (k5 q (hk q hq))
     exact⟨e,he1,he2⟩) h5
   obtain rfl:c0=.int .u8 n0:=List.head_eq_of_cons_eq e0
   obtain rfl:c1=.int .u8 n1:=List.head_eq_of_cons_eq e1
   obtain rfl:c2=.int .u8 n2:=List.head_eq_of_cons_eq e2
   obtain rfl:c3=.int .i32 n3:=List.head_eq_of_cons_eq e3
   obtain rfl:c4=str n4:=List.head_eq_of_cons_eq e4
   obtain rfl:c5=.slice a n c:=List.head_eq_of_cons_eq e5
   subst hll
   have u0:0≤n0∧n0≤255:=by simpa [Lit.wf,show IntKind.u8.min=0 from rfl,show IntKind.u8.max=255 from rfl] using w0
   have u1:0≤n1∧n1≤255:=by simpa [Lit.wf,show IntKind.u8.min=0 from rfl,show IntKind.u8.max=255 from rfl] using w1
   have u2:0≤n2∧n2≤255:=by simpa [Lit.wf,show IntKind.u8.min=0 from rfl,show IntKind.u8.max=255 from rfl] using w2
   have u3:-2147483648≤n3∧n3≤2147483647:=by simp[Lit.wf] at w3;exact w3
   exact⟨.mk n0 n1 n2 n3 n4 a c l,rfl,.mk (Rd.ofSl hs) fun y hy=>(hp y hy).1,.mk u0 u1 u2 u3 (Nat.le_trans (hw _ (k4 _ w4)) (by decide)) fun y hy=>(hp y hy).2⟩
end Go.Proofs.YtcfemegngeijcaaGreatDoor
end
section
namespace Go.Proofs.YtcfemegngeijcaaGreatDoor
set_option maxRecDepth 100000
set_option maxHeartbeats 2000000
open Go.Xp hiding B
open Go Go.Eng Go.Ty Go.Pc Go.RowKit Go.ChangeShapes Go.WideShapes Go.ChangeAt Go.Joins
open Go.Lx (encB C9)
variable {H:Type} {enc:TypeId × Value→H} {W:World}
abbrev Wt (x:DataW H × List MemPlace) (t:TypeId):Prop:=∀ q ∈ x.1.weights Tryz.prog t,q≤reachBytes
theorem F2 (cs:List Value) (i n:Nat):cs.drop i=(cs.drop i).take n++cs.drop (i+n):=by
 rw[← List.drop_drop,List.take_append_drop]
theorem b8M:Tryz.prog.cellsOf 9=1:=by kernel_rfl
theorem b9R:Tryz.prog.cellsOf 3=1:=by kernel_rfl
theorem c1o:Tryz.prog.cellsOf 36=4:=by kernel_rfl
theorem b5N:Tryz.prog.cellsOf 122=2:=by kernel_rfl
theorem c2v:Tryz.prog.cellsOf 25=1:=by kernel_rfl
theorem c1l:Tryz.prog.cellsOf 40=2:=by kernel_rfl
theorem b5G:Tryz.prog.cellsOf 87=6:=by kernel_rfl
theorem c2s:Tryz.prog.cellsOf 30=13:=by kernel_rfl
theorem c1g:Tryz.prog.cellsOf 43=16:=by kernel_rfl
theorem b4O:Tryz.prog.cellsOf 57=23:=by kernel_rfl
theorem b5I:Tryz.prog.cellsOf 45=42:=by kernel_rfl
theorem b2u {n:Int} (w:(Lit.int .u8 n).wf=true):0≤n∧n≤255:=by simpa [Lit.wf,show IntKind.u8.min=0 from rfl,show IntKind.u8.max=255 from rfl] using w
theorem b8X {n:Int} (w:(Lit.int .i64 n).wf=true):-9223372036854775808≤n∧n≤9223372036854775807:=by
 simp[Lit.wf] at w
 exact w
theorem b1R {H7:Nat} {cs:List Value} {x:DataW H × List MemPlace} (hr:RdT enc Tryz.prog W true H7 36 cs x) (hw:Wt x 36):∃ t:Ty,cs=K0 t∧TyW t:=by
 obtain⟨hl,f,_,hf⟩:=S6 a7M hr
 rw[c1o] at hl
 match cs,hl with
 | [c0,c1,c2,c3],_=>
   obtain⟨_,_,h0,_⟩:=hf _ (.head _)
   obtain⟨_,_,h1,_⟩:=hf _ (.tail _ (.head _))
   obtain⟨_,_,h2,_⟩:=hf _ (.tail _ (.tail _ (.head _)))
   obtain⟨_,_,h3,k3⟩:=hf _ (.tail _ (.tail _ (.tail _ (.head _))))
   obtain⟨n0,e0,w0⟩:=a1j b3J h0
   obtain⟨n1,e1,w1⟩:=a1j uu3 h1
   obtain⟨n2,e2,w2⟩:=a1j b3J h2
   obtain⟨n3,e3,w3⟩:=b1p uu9 h3
   obtain rfl:c0=.int .u8 n0:=List.head_eq_of_cons_eq e0
   obtain rfl:c1=.int .i64 n1:=List.head_eq_of_cons_eq e1
   obtain rfl:c2=.int .u8 n2:=List.head_eq_of_cons_eq e2
   obtain rfl:c3=str n3:=List.head_eq_of_cons_eq e3
   exact⟨⟨n0,n1,n2,n3⟩,rfl,b2u w0,b2u w2,b8X w1,Nat.le_trans (hw _ (k3 _ w3)) (by decide)⟩
theorem a1E {H7:Nat} {cs:List Value} {x:DataW H × List MemPlace} (hr:RdT enc Tryz.prog W true H7 9 cs x) (hw:Wt x 9):∃ s:List UInt8,cs=encB s∧s.length≤Big:=by
 obtain⟨s,e,w⟩:=b1p uu9 hr
 exact⟨s,e,Nat.le_trans (hw _ w) (by decide)⟩
theorem c2N {H7:Nat} {cs:List Value} {x:DataW H × List MemPlace} (hr:RdT enc Tryz.prog W true H7 87 cs x) (hw:Wt x 87):∃ f:Fo,cs=foE f∧FoW f:=by
 obtain⟨hl,f,_,hf⟩:=S6 b5R hr
 rw[b5G] at hl
 obtain⟨_,_,h0,_⟩:=hf _ (.head _)
 obtain⟨_,_,h1,k1⟩:=hf _ (.tail _ (.head _))
 obtain⟨_,_,h2,k2⟩:=hf _ (.tail _ (.tail _ (.head _)))
 obtain⟨b,e0⟩:=b4Q uu4 h0
 obtain⟨t,e1,w1⟩:=b1R h1 fun q hq=>hw q (k1 q hq)
 obtain⟨s,e2,w2⟩:=a1E h2 fun q hq=>hw q (k2 q hq)
 refine⟨⟨b,t,s⟩,?_,w1,w2⟩
 have h:cs.drop 6=[]:=List.drop_eq_nil_of_le (by omega)
 rw[show cs=cs.drop 0 from rfl,F2 cs 0 1,show(cs.drop 0).take 1=_ from e0,F2 cs 1 4,show(cs.drop (0+1)).take 4=_ from e1,F2 cs 5 1,show(cs.drop (1+4)).take 1=_ from e2,h]
 rfl
theorem a0V {H7:Nat} {cs:List Value} {x:DataW H × List MemPlace} (hr:RdT enc Tryz.prog W true H7 28 cs x) (hw:Wt x 28):∃ e:Ex,cs=exE e∧EOk (I3 W) [] e:=by
 obtain⟨e,h1,h2,h3⟩:=c0Y H7 hr hw
 exact⟨e,h1,h2,h3⟩
theorem a5S {H7:Nat} {cs:List Value} {x:DataW H × List MemPlace} (hr:RdT enc Tryz.prog W true H7 26 cs x) (hw:Wt x 26):∃ s:Sli Ex,cs=[.slice s.a s.l.length s.c]∧LOk (I3 W) [] s:=by
 obtain⟨a,n,c,l,e,hl,hs,hp⟩:=S7 (Pr:=fun e:Ex=>EOk (I3 W) [] e) (enc':=exE) c2W a6O (by decide) a0Q (fun g ys y _ hy hk=>a0V hy fun q hq=>hw q (hk q hq)) hr
 subst hl
 exact⟨⟨a,c,l⟩,e,Rd.ofSl hs,hp⟩
theorem b7C {H7:Nat} {cs:List Value} {x:DataW H × List MemPlace} (hr:RdT enc Tryz.prog W true H7 37 cs x) (hw:Wt x 37):∃ s:Sli B,cs=[.slice s.a s.l.length s.c]∧Rd (I3 W) [] s.a s.l.length s.c 1 (fl encB s.l)∧∀ x ∈ s.l,x.length≤Big:=by
 obtain⟨a,n,c,l,e,hl,hs,hp⟩:=S7 (Pr:=fun x:B=>x.length≤Big) (enc':=encB) c5p b8M (by decide) C9 (fun g ys y _ hy hk=>a1E hy fun q hq=>hw q (hk q hq)) hr
 subst hl
 exact⟨⟨a,c,l⟩,e,Rd.ofSl hs,hp⟩
theorem b6N {H7:Nat} {cs:List Value} {x:DataW H × List MemPlace} (hr:RdT enc Tryz.prog W true H7 33 cs x):∃ s:Sli Int,cs=[.slice s.a s.l.length s.c]∧Rd (I3 W) [] s.a s.l.length s.c 1 (fl a2O s.l)∧∀ x ∈ s.l,-9223372036854775808≤x∧x≤9223372036854775807:=by
 obtain⟨a,n,c,l,e,hl,hs,hp⟩:=S7 (Pr:=fun x:Int=>-9223372036854775808≤x∧x≤9223372036854775807) (enc':=a2O) c5A b9R (by decide) a3r (fun g ys y _ hy _=>by
   obtain⟨n,e,w⟩:=a1j uu3 hy
   exact⟨n,e,b8X w⟩) hr
 subst hl
 exact⟨⟨a,c,l⟩,e,Rd.ofSl hs,hp⟩
theorem c0G {H7:Nat} {cs:List Value} {x:DataW H × List MemPlace} (hr:RdT enc Tryz.prog W true H7 41 cs x) (hw:Wt x 41):∃ s:Sli Fo,cs=[.slice s.a s.l.length s.c]∧Rd (I3 W) [] s.a s.l.length s.c 6 (fl foE s.l)∧∀ x ∈ s.l,FoW x:=by
 obtain⟨a,n,c,l,e,hl,hs,hp⟩:=S7 (Pr:=fun x:Fo=>FoW x) (enc':=foE) c6J b5G (by decide) a2t (fun g ys y _ hy hk=>c2N hy fun q hq=>hw q (hk q hq)) hr
 subst hl
 exact⟨⟨a,c,l⟩,e,Rd.ofSl hs,hp⟩
theorem c1p {H7:Nat} {cs:List Value} {x:DataW H × List MemPlace} (hr:RdT enc Tryz.prog W true H7 30 cs x) (hw:Wt x 30):∃ r:Rp,cs=rpE r∧r.name.length≤Big∧EOk (I3 W) [] r.base∧EOk (I3 W) [] r.count:=by
 obtain⟨hl,f,_,hf⟩:=S6 c1c hr
 rw[c2s] at hl
 obtain⟨_,_,h0,k0⟩:=hf _ (.head _)
 obtain⟨_,_,h1,k1⟩:=hf _ (.tail _ (.head _))
 obtain⟨_,_,h2,k2⟩:=hf _ (.tail _ (.tail _ (.head _)))
 obtain⟨s,e0,w0⟩:=a1E h0 fun q hq=>hw q (k0 q hq)
 obtain⟨b,e1,w1⟩:=a0V h1 fun q hq=>hw q (k1 q hq)
 obtain⟨c,e2,w2⟩:=a0V h2 fun q hq=>hw q (k2 q hq)
 refine⟨⟨s,b,c⟩,?_,w0,w1,w2⟩
 have h:cs.drop 13=[]:=List.drop_eq_nil_of_le (by omega)
 rw[show cs=cs.drop 0 from rfl,F2 cs 0 1,show(cs.drop 0).take 1=_ from e0,F2 cs 1 6,show(cs.drop (0+1)).take 6=_ from e1,F2 cs 7 6,show(cs.drop (1+6)).take 6=_ from e2,h]
 rfl
theorem c0z {H7:Nat} {cs:List Value} {x:DataW H × List MemPlace} (hr:RdT enc Tryz.prog W true H7 122 cs x) (hw:Wt x 122):∃ v:Vr,cs=encV v∧(VOk (I3 W) [] v∧v.tag.length≤9223372036854775807)∧v.items.length=v.n:=by
 obtain⟨hl,f,_,hf⟩:=S6 a6s hr
 rw[b5N] at hl
 match cs,hl with
 | [c0,c1],_=>
   obtain⟨_,_,h0,k0⟩:=hf _ (.head _)
   obtain⟨_,_,h1,k1⟩:=hf _ (.tail _ (.head _))
   obtain⟨n0,e0,w0⟩:=a1E h0 fun q hq=>hw q (k0 q hq)
   obtain⟨a,n,c,l,e1,hll,hs,_⟩:=S7 (Pr:=fun _:Int=>True) (enc':=N6) a8x c2v (by decide) D9 (fun g ys y _ hy _=>by
     obtain⟨n,e,_⟩:=a1j b3J hy
     exact⟨n,e,trivial⟩) h1
   obtain rfl:c0=str n0:=List.head_eq_of_cons_eq e0
   obtain rfl:c1=.slice a n c:=List.head_eq_of_cons_eq e1
   exact⟨⟨n0,a,n,c,l⟩,rfl,⟨⟨Rd.ofSl hs⟩,Nat.le_trans w0 (by decide)⟩,hll⟩
theorem c0M {H7:Nat} {cs:List Value} {x:DataW H × List MemPlace} (hr:RdT enc Tryz.prog W true H7 40 cs x) (hw:Wt x 40):∃ (b:Bool) (s:Sli Vr),cs=[.bool b,.slice s.a s.l.length s.c]∧PrOk (I3 W) [] s.a s.l.length s.c s.l∧∀ x ∈ s.l,x.items.length=x.n:=by
 obtain⟨hl,f,_,hf⟩:=S6 b7u hr
 rw[c1l] at hl
 match cs,hl with
 | [c0,c1],_=>
   obtain⟨_,_,h0,_⟩:=hf _ (.head _)
   obtain⟨_,_,h1,k1⟩:=hf _ (.tail _ (.head _))
   obtain⟨b,e0⟩:=b4Q uu4 h0
   obtain⟨a,n,c,l,e1,hll,hs,hp⟩:=S7 (Pr:=fun v:Vr=>(VOk (I3 W) [] v∧v.tag.length≤9223372036854775807)∧v.items.length=v.n) (enc':=encV) c2y b5N (by decide) D3 (fun g ys y _ hy hk=>c0z hy fun q hq=>hw q (k1 q (hk q hq))) h1
   obtain rfl:c0=.bool b:=List.head_eq_of_cons_eq e0
   obtain rfl:c1=.slice a n c:=List.head_eq_of_cons_eq e1
   subst hll
   exact⟨b,⟨a,c,l⟩,rfl,⟨Rd.ofSl hs,fun v hv=>(hp v hv).1.1,fun v hv=>(hp v hv).1.2⟩,fun v hv=>(hp v hv).2⟩
abbrev PsR (H7:Nat):Prop:=∀ g,g < H7→∀ {cs:List Value} {x:DataW H × List MemPlace},RdT enc Tryz.prog W true g 45 cs x→Wt x 45→∃ p:Pr,cs=prE p∧POk (I3 W) [] p
theorem a8p {H7:Nat} (ih:PsR (enc:=enc) (W:=W) H7) {cs:List Value} {x:DataW H × List MemPlace} (hr:RdT enc Tryz.prog W true H7 32 cs x) (hw:Wt x 32) :
   ∃ a c l,cs=[.slice a l.length c]∧Rd (I3 W) [] a l.length c 42 (fl prE l)∧∀ p ∈ l,POk (I3 W) [] p:=by
 obtain⟨a,n,c,l,e,hl,hs,hp⟩:=S7 (Pr:=fun p:Pr=>POk (I3 W) [] p) (enc':=prE) c2f b5I (by decide) a1z (fun g ys y hg hy hk=>ih g hg hy fun q hq=>hw q (hk q hq)) hr
 subst hl
 exact⟨a,c,l,e,Rd.ofSl hs,hp⟩
theorem PsR.less {f g:Nat} (ih:PsR (enc:=enc) (W:=W) f) (h:g≤f):PsR (enc:=enc) (W:=W) g:=fun k hk=>ih k (Nat.lt_of_lt_of_le hk h)
theorem c0S {H7:Nat} (ih:PsR (enc:=enc) (W:=W) H7) {cs:List Value} {x:DataW H × List MemPlace} (hr:RdT enc Tryz.prog W true H7 43 cs x) (hw:Wt x 43) :
   ∃ s:Sp,cs=spE s∧SOk (I3 W) [] s∧∀ p ∈ s.bl,POk (I3 W) [] p:=by
 obtain⟨hl,f,hfu,hf⟩:=S6 a6E hr
 rw[c1g] at hl
 obtain⟨_,_,h0,_⟩:=hf _ (.head _)
 obtain⟨_,_,h1,k1⟩:=hf _ (.tail _ (.head _))
 obtain⟨_,_,h2,k2⟩:=hf _ (.tail _ (.tail _ (.head _)))
 obtain⟨_,_,h3,k3⟩:=hf _ (.tail _ (.tail _ (.tail _ (.head _))))
 obtain⟨_,_,h4,k4⟩:=hf _ (.tail _ (.tail _ (.tail _ (.tail _ (.head _)))))
 obtain⟨_,_,h5,k5⟩:=hf _ (.tail _ (.tail _ (.tail _ (.tail _ (.tail _ (.head _))))))
 obtain⟨_,_,h6,k6⟩:=hf _ (.tail _ (.tail _ (.tail _ (.tail _ (.tail _ (.tail _ (.head _)))))))
 obtain⟨n0,e0,w0⟩:=a1j c6g h0
 obtain⟨t1,e1,w1⟩:=b1R h1 fun q hq=>hw q (k1 q hq)
 obtain⟨s2,e2,r2,w2⟩:=b7C h2 fun q hq=>hw q (k2 q hq)
 obtain⟨x3,e3,w3⟩:=a0V h3 fun q hq=>hw q (k3 q hq)
 obtain⟨b4,s4,e4,r4,w4⟩:=c0M h4 fun q hq=>hw q (k4 q hq)
 obtain⟨s5,e5,r5,w5⟩:=c0G h5 fun q hq=>hw q (k5 q hq)
 obtain⟨a6,c6,l6,e6,r6,w6⟩:=a8p (ih.less (by omega)) h6 fun q hq=>hw q (k6 q hq)
 refine⟨.mk n0 t1 s2 x3 b4 s4 s5 a6 c6 l6,?_,⟨b2u w0,w1,r2,w2,w3,r4,w4,r5,w5,r6⟩,w6⟩
 have h:cs.drop 16=[]:=List.drop_eq_nil_of_le (by omega)
 rw[show cs=cs.drop 0 from rfl,F2 cs 0 1,show(cs.drop 0).take 1=_ from e0,F2 cs 1 4,show(cs.drop (0+1)).take 4=_ from e1,F2 cs 5 1,show(cs.drop (1+4)).take 1=_ from e2,
   F2 cs 6 6,show(cs.drop (5+1)).take 6=_ from e3,F2 cs 12 2,show(cs.drop (6+6)).take 2=_ from e4,F2 cs 14 1,show(cs.drop (12+2)).take 1=_ from e5,F2 cs 15 1,show(cs.drop (14+1)).take 1=_ from e6,h]
 rfl
theorem c2V {H7:Nat} (ih:PsR (enc:=enc) (W:=W) H7) {cs:List Value} {x:DataW H × List MemPlace} (hr:RdT enc Tryz.prog W true H7 57 cs x) (hw:Wt x 57) :
   ∃ g:Gu,cs=guE g∧GOk (I3 W) [] g∧∀ p ∈ g.bl,POk (I3 W) [] p:=by
 obtain⟨hl,f,hfu,hf⟩:=S6 a6m hr
 rw[b4O] at hl
 obtain⟨_,_,h0,_⟩:=hf _ (.head _)
 obtain⟨_,_,h1,k1⟩:=hf _ (.tail _ (.head _))
 obtain⟨_,_,h2,k2⟩:=hf _ (.tail _ (.tail _ (.head _)))
 obtain⟨_,_,h3,k3⟩:=hf _ (.tail _ (.tail _ (.tail _ (.head _))))
 obtain⟨_,_,h4,k4⟩:=hf _ (.tail _ (.tail _ (.tail _ (.tail _ (.head _)))))
 obtain⟨_,_,h5,k5⟩:=hf _ (.tail _ (.tail _ (.tail _ (.tail _ (.tail _ (.head _))))))
 obtain⟨_,_,h6,k6⟩:=hf _ (.tail _ (.tail _ (.tail _ (.tail _ (.tail _ (.tail _ (.head _)))))))
 obtain⟨_,_,h7,k7⟩:=hf _ (.tail _ (.tail _ (.tail _ (.tail _ (.tail _ (.tail _ (.tail _ (.head _))))))))
 obtain⟨n0,e0,w0⟩:=a1j b7a h0
 obtain⟨s1,e1,w1⟩:=a1E h1 fun q hq=>hw q (k1 q hq)
 obtain⟨x2,e2,w2⟩:=a0V h2 fun q hq=>hw q (k2 q hq)
 obtain⟨x3,e3,w3⟩:=a0V h3 fun q hq=>hw q (k3 q hq)
 obtain⟨s4,e4,w4⟩:=a5S h4 fun q hq=>hw q (k4 q hq)
 obtain⟨s5,e5,w5⟩:=a5S h5 fun q hq=>hw q (k5 q hq)
 obtain⟨x6,e6,w6⟩:=a0V h6 fun q hq=>hw q (k6 q hq)
 obtain⟨a7,c7,l7,e7,r7,w7⟩:=a8p (ih.less (by omega)) h7 fun q hq=>hw q (k7 q hq)
 refine⟨.mk n0 s1 x2 x3 s4 s5 x6 a7 c7 l7,?_,⟨b2u w0,w1,w2,w3,w4,w5,w6,r7⟩,w7⟩
 have h:cs.drop 23=[]:=List.drop_eq_nil_of_le (by omega)
 rw[show cs=cs.drop 0 from rfl,F2 cs 0 1,show(cs.drop 0).take 1=_ from e0,F2 cs 1 1,show(cs.drop (0+1)).take 1=_ from e1,F2 cs 2 6,show(cs.drop (1+1)).take 6=_ from e2,
   F2 cs 8 6,show(cs.drop (2+6)).take 6=_ from e3,F2 cs 14 1,show(cs.drop (8+6)).take 1=_ from e4,F2 cs 15 1,show(cs.drop (14+1)).take 1=_ from e5,F2 cs 16 6,show(cs.drop (15+1)).take 6=_ from e6,F2 cs 22 1,show(cs.drop (16+6)).take 1=_ from e7,h]
 rfl
theorem c0p {H7:Nat} (ih:PsR (enc:=enc) (W:=W) H7) {cs:List Value} {x:DataW H × List MemPlace} (hr:RdT enc Tryz.prog W true H7 31 cs x) (hw:Wt x 31) :
   ∃ a c l,cs=[.slice a l.length c]∧Rd (I3 W) [] a l.length c 23 (fl guE l)∧∀ g ∈ l,GOk (I3 W) [] g∧∀ p ∈ g.bl,POk (I3 W) [] p:=by
 obtain⟨a,n,c,l,e,hl,hs,hp⟩:=S7 (Pr:=fun g:Gu=>GOk (I3 W) [] g∧∀ p ∈ g.bl,POk (I3 W) [] p) (enc':=guE) c5U b4O (by decide) a0O (fun g ys y hg hy hk=>c2V (ih.less (by omega)) hy fun q hq=>hw q (hk q hq)) hr
 subst hl
 exact⟨a,c,l,e,Rd.ofSl hs,hp⟩
theorem c1n:∀ (H7:Nat) {cs:List Value} {x:DataW H × List MemPlace},RdT enc Tryz.prog W true H7 45 cs x→Wt x 45→∃ p:Pr,cs=prE p∧POk (I3 W) [] p:=by
 intro H7
 induction H7 using Nat.strongRecOn with
 | _ H7 ih=>
 intro cs x hr hw
 replace ih:PsR (enc:=enc) (W:=W) H7:=fun g hg=>ih g hg
 obtain⟨hl,f,hfu,hf⟩:=S6 R0 hr
 rw[b5I] at hl
 obtain⟨_,_,h0,_⟩:=hf _ (.head _)
 obtain⟨_,_,h1,k1⟩:=hf _ (.tail _ (.head _))
 obtain⟨_,_,h2,k2⟩:=hf _ (.tail _ (.tail _ (.head _)))
 obtain⟨_,_,h3,k3⟩:=hf _ (.tail _ (.tail _ (.tail _ (.head _))))
 obtain⟨_,_,h4,k4⟩:=hf _ (.tail _ (.tail _ (.tail _ (.tail _ (.head _)))))
 obtain⟨_,_,h5,k5⟩:=hf _ (.tail _ (.tail _ (.tail _ (.tail _ (.tail _ (.head _))))))
 obtain⟨_,_,h6,k6⟩:=hf _ (.tail _ (.tail _ (.tail _ (.tail _ (.tail _ (.tail _ (.head _)))))))
 obtain⟨_,_,h7,k7⟩:=hf _ (.tail _ (.tail _ (.tail _ (.tail _ (.tail _ (.tail _ (.tail _ (.head _))))))))
 obtain⟨_,_,h8,_⟩:=hf _ (.tail _ (.tail _ (.tail _ (.tail _ (.tail _ (.tail _ (.tail _ (.tail _ (.head _)))))))))
 obtain⟨_,_,h9,k9⟩:=hf _ (.tail _ (.tail _ (.tail _ (.tail _ (.tail _ (.tail _ (.tail _ (.tail _ (.tail _ (.head _))))))))))
 obtain⟨n0,e0,w0⟩:=a1j c6p h0
 obtain⟨s1,e1,w1⟩:=a1E h1 fun q hq=>hw q (k1 q hq)
 obtain⟨x2,e2,w2⟩:=a0V h2 fun q hq=>hw q (k2 q hq)
 obtain⟨s3,e3,w3⟩:=a5S h3 fun q hq=>hw q (k3 q hq)
 obtain⟨s4,e4,w4⟩:=a5S h4 fun q hq=>hw q (k4 q hq)
 obtain⟨r5,e5,w5,wb5,wc5⟩:=c1p h5 fun q hq=>hw q (k5 q hq)
 obtain⟨a6,c6,l6,e6,r6,w6⟩:=c0p (ih.less (by omega)) h6 fun q hq=>hw q (k6 q hq)
 obtain⟨a7,c7,l7,e7,r7,w7⟩:=a8p (ih.less (by omega)) h7 fun q hq=>hw q (k7 q hq)
 obtain⟨s8,e8,r8,w8⟩:=b6N h8
 obtain⟨s9,e9,r9,w9⟩:=c0S (ih.less (by omega)) h9 fun q hq=>hw q (k9 q hq)
 refine⟨.mk n0 s1 x2 s3 s4 r5 a6 c6 l6 a7 c7 l7 s8 s9,?_,.mk ⟨b2u w0,w1,w2,w3,w4,w5,wb5,wc5,r6,fun g hg=>(w6 g hg).1,r7,r8,w8,r9⟩ fun y hy=>?_⟩
 · have h:cs.drop 42=[]:=List.drop_eq_nil_of_le (by omega)
   rw[show cs=cs.drop 0 from rfl,F2 cs 0 1,show(cs.drop 0).take 1=_ from e0,F2 cs 1 1,show(cs.drop (0+1)).take 1=_ from e1,F2 cs 2 6,show(cs.drop (1+1)).take 6=_ from e2,
     F2 cs 8 1,show(cs.drop (2+6)).take 1=_ from e3,F2 cs 9 1,show(cs.drop (8+1)).take 1=_ from e4,F2 cs 10 13,show(cs.drop (9+1)).take 13=_ from e5,F2 cs 23 1,show(cs.drop (10+13)).take 1=_ from e6,
     F2 cs 24 1,show(cs.drop (23+1)).take 1=_ from e7,F2 cs 25 1,show(cs.drop (24+1)).take 1=_ from e8,F2 cs 26 16,show(cs.drop (25+1)).take 16=_ from e9,h]
   rfl
 · cases hy with
   | l h=>exact w7 y h
   | s h=>exact w9 y h
   | g hg h=>exact(w6 _ hg).2 y h
theorem c4U {r:Reach} {base:Nat} {v:Value} {d:DataW H} {p:List MemPlace} (hv:Value.okWide Tryz.prog W r base 45 v) (h:DataW.Trod enc Tryz.prog W 0 (fun _=>true) true 45 v d p) (hw:∀ q ∈ d.weights Tryz.prog 45,q≤reachBytes) :
   ∃ x:Pr,v=prV x∧POk (I3 W) [] x:=by
 obtain⟨cs,rfl,_⟩:=okWide_struct R0 hv
 obtain⟨H7,hf⟩:=h
 obtain⟨e,he,ht⟩:=c1n H7 (x:=(d,p)) hf hw
 refine⟨e,?_,ht⟩
 unfold Pc.prV
 rw[← show cs.toList=prE e from he]
end Go.Proofs.YtcfemegngeijcaaGreatDoor
end

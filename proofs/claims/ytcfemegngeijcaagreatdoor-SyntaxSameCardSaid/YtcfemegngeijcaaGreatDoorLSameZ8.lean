import Derived.Test.YtcfemegngeijcaaGreatDoorLSameZ7
import Derived.SevenTiedAt
import Derived.Test.YtcfemegngeijcaaGreatDoorCards
import Derived.Test.YtcfemegngeijcaaGreatDoorTie
import Derived.ChangeMaps5
section
namespace Go.Proofs.YtcfemegngeijcaaGreatDoor
set_option maxRecDepth 100000
set_option maxHeartbeats 2000000
open Go Go.Eng Go.RowKit Go.ChangeShapes Go.WideShapes Go.ChangeAt Go.Joins
theorem Tryz.own:ownKnob Tryz.prog.godebug=none:=by kernel_rfl
theorem Tryz.laidOut:laidOutB Tryz.prog=true:=by kernel_rfl
theorem b9G:Tryz.prog.cellsOf 252=3:=by kernel_rfl
abbrev a9q : List (String × DataW Unit) := [("math/bits.deBruijn32tab", Rows.laid_math_bits_deBruijn32tab), ("math/bits.deBruijn64tab", Rows.laid_math_bits_deBruijn64tab), ("internal/strconv.uint64pow10", Rows.laid_internal_strconv_uint64pow10), ("unicode/utf8.acceptRanges", Rows.laid_unicode_utf8_acceptRanges), ("transputer/types.primitive", Rows.laid_transputer_types_primitive), ("transputer/syntax.one", Rows.laid_transputer_syntax_one), ("transputer/syntax.some", Rows.laid_transputer_syntax_some), ("transputer/syntax.all", Rows.laid_transputer_syntax_all), ("unicode/utf8.first", Rows.laid_unicode_utf8_first)]
theorem a9E {W:World} {G7:Nat} {ys:List Value} {kd sz:Int} {wd:List UInt8} {p:List MemPlace}
   (h:DataW.trod (fun _=>()) Tryz.prog W 0 (fun _=>true) false G7 252 ys=some (.agg [.lit (.int .u8 kd),.lit (.string wd),.lit (.int .i64 sz)],p)) :
   ys[0]?=some (.int .u8 kd)∧ys[1]?=some (str wd)∧ys[2]?=some (.int .i64 sz):=by
 obtain⟨f,hf⟩:=a6e b1F h
 obtain⟨_,h0⟩:=hf 0 _ _ rfl rfl
 obtain⟨_,h1⟩:=hf 1 _ _ rfl rfl
 obtain⟨_,h2⟩:=hf 2 _ _ rfl rfl
 exact⟨Eng.cell_of_cut (a5m b3f h0),Eng.cell_of_cut (b6S uu9 h1),Eng.cell_of_cut (a5m uu3 h2)⟩
theorem a2O {cs ys:List Value} {i j:Nat} {v:Value} (e:(cs.drop (i * 3)).take 3=ys) (h:ys[j]?=some v):cs[i * 3+j]?=some v:=by
 subst e
 rw[List.getElem?_take] at h
 split at h
 · rwa [List.getElem?_drop] at h
 · cases h
theorem a9O {W:World} {G7:Nat} {ys:List Value} {a b:Int} {p:List MemPlace} (h:DataW.trod (fun _=>()) Tryz.prog W 0 (fun _=>true) false G7 91 ys=some (.agg [.lit (.int .i64 a),.lit (.int .i64 b)],p)) :
   ∀ (j:Nat) (v:Value),([.int .i64 a,.int .i64 b]:List Value)[j]?=some v→ys[j]?=some v:=by
 obtain⟨f,hf⟩:=a6e a0I h
 obtain⟨_,h0⟩:=hf 0 _ _ rfl rfl
 obtain⟨_,h1⟩:=hf 1 _ _ rfl rfl
 have e0:=Eng.cell_of_cut (a5m uu3 h0)
 have e1:=Eng.cell_of_cut (a5m uu3 h1)
 intro j v hj
 match j,hj with
 | 0,hj=>cases hj;exact e0
 | 1,hj=>cases hj;exact e1
theorem c0G {W:World} (h:laidMet Tryz.prog a9q W) (hsh:W.ShapedOpen Tryz.prog):Glob (G9 W):=by
 obtain⟨_,⟨_,_,_,_,_,_,_,_,_,_,⟨_,_,_,_,_,_,_,_,_,_,⟨_,_,_,_,_,_,_,_,_,_,⟨_,_,_,_,_,_,_,_,_,_,⟨g4,t4,cs4,f4,p4,q4,hg4,ht4,hv4,hd4,⟨g5,t5,cs5,f5,p5,q5,hg5,ht5,hv5,hd5,⟨g6,t6,cs6,f6,p6,q6,hg6,ht6,hv6,hd6,⟨g7,t7,cs7,f7,p7,q7,hg7,ht7,hv7,hd7,_,_⟩,_⟩,_⟩,_⟩,_⟩,_⟩,_⟩,_⟩,_⟩:=h
 obtain rfl := Option.some.inj ((show Tryz.prog.globalNamed "transputer/types.primitive" = some 3 by kernel_rfl).symm.trans hg4)
 obtain rfl:=Option.some.inj ((show(Tryz.prog.globals[3]?).map (·.type)=some 253 by kernel_rfl).symm.trans ht4)
 obtain rfl := Option.some.inj ((show Tryz.prog.globalNamed "transputer/syntax.one" = some 1 by kernel_rfl).symm.trans hg5)
 obtain rfl:=Option.some.inj ((show(Tryz.prog.globals[1]?).map (·.type)=some 91 by kernel_rfl).symm.trans ht5)
 obtain rfl := Option.some.inj ((show Tryz.prog.globalNamed "transputer/syntax.some" = some 2 by kernel_rfl).symm.trans hg6)
 obtain rfl:=Option.some.inj ((show(Tryz.prog.globals[2]?).map (·.type)=some 91 by kernel_rfl).symm.trans ht6)
 obtain rfl := Option.some.inj ((show Tryz.prog.globalNamed "transputer/syntax.all" = some 0 by kernel_rfl).symm.trans hg7)
 obtain rfl:=Option.some.inj ((show(Tryz.prog.globals[0]?).map (·.type)=some 91 by kernel_rfl).symm.trans ht7)
 refine⟨(Tryz.laysM144.s1_3 W hsh).imp fun _ e=>a0e e,fun j v hj=>a0e ?_,fun j v hj=>a0e ?_,fun j v hj=>a0e ?_,fun j v hj=>a0e ?_⟩
 · obtain⟨f,hf⟩:=b3e a6p hd4
   obtain⟨_,h0⟩:=hf 0 _ (by decide) rfl
   obtain⟨_,h1⟩:=hf 1 _ (by decide) rfl
   obtain⟨_,h2⟩:=hf 2 _ (by decide) rfl
   rw[b9G] at h0 h1 h2
   have a0:=a9E h0
   have a1:=a9E h1
   have a2:=a9E h2
   rw[World.var?_cell hg4 hv4 j,← Array.getElem?_toList]
   match j,hj with
   | 0,hj=>cases hj;exact a2O (i:=0) rfl a0.1
   | 1,hj=>cases hj;exact a2O (i:=0) rfl a0.2.1
   | 2,hj=>cases hj;exact a2O (i:=0) rfl a0.2.2
   | 3,hj=>cases hj;exact a2O (i:=1) rfl a1.1
   | 4,hj=>cases hj;exact a2O (i:=1) rfl a1.2.1
   | 5,hj=>cases hj;exact a2O (i:=1) rfl a1.2.2
   | 6,hj=>cases hj;exact a2O (i:=2) rfl a2.1
   | 7,hj=>cases hj;exact a2O (i:=2) rfl a2.2.1
   | 8,hj=>cases hj;exact a2O (i:=2) rfl a2.2.2
 · rw[World.var?_cell hg5 hv5 j,← Array.getElem?_toList]
   exact a9O hd5 j v hj
 · rw[World.var?_cell hg6 hv6 j,← Array.getElem?_toList]
   exact a9O hd6 j v hj
 · rw[World.var?_cell hg7 hv7 j,← Array.getElem?_toList]
   exact a9O hd7 j v hj
theorem c2q {W : World} (h : laidMet Tryz.prog a9q W) : Lib.TabIs Tryz.prog W "internal/strconv.uint64pow10" .u64 Lib.pow10Tab := by
 obtain⟨_,⟨_,_,_,_,_,_,_,_,_,_,⟨_,_,_,_,_,_,_,_,_,_,⟨g2,t2,cs2,f2,p2,q2,hg2,ht2,hv2,hd2,_,_⟩,_⟩,_⟩,_⟩:=h
 have hg : Tryz.prog.globalNamed "internal/strconv.uint64pow10" = some 7 := by kernel_rfl
 have hty:(Tryz.prog.globals[7]?).map (·.type)=some 301:=by kernel_rfl
 obtain rfl:=Option.some.inj (hg.symm.trans hg2)
 obtain rfl:=Option.some.inj (hty.symm.trans ht2)
 unfold Lib.TabIs
 rw[hv2,← Lib.cells_of_tab (zs:=Lib.pow10Tab) c1c c1d (by kernel_rfl) (by kernel_rfl) hd2]
theorem c2l {W w : World} {h : List Res} (ht : Lib.TabIs Tryz.prog W "internal/strconv.uint64pow10" .u64 Lib.pow10Tab) (st : St (G9 W) h w) : Lib.TabIs Tryz.prog w "internal/strconv.uint64pow10" .u64 Lib.pow10Tab := by
 unfold Lib.TabIs World.var? at ht ⊢
 cases hg : Tryz.prog.globalNamed "internal/strconv.uint64pow10" with
 | none=>rw[hg] at ht;cases ht
 | some g=>
   rw[hg] at ht
   simp only[Option.bind_some] at ht ⊢
   cases hb:W.heap[g]? with
   | none=>rw[hb] at ht;cases ht
   | some o=>rw[st.blk g o hb,← hb];exact ht
theorem c1N {W:World} (h:laidMet Tryz.prog a9q W):Pow (G9 W):=fun _ _ st=>c2l (c2q h) st
noncomputable def c4T:DataW Unit→List Value
 | .lit (.int k z)=>[.int k z]
 | _=>[]
noncomputable def c4P:DataW Unit→List Value
 | .lit (.int k z)=>[.int k z]
 | .agg ds=>ds.flatMap c4T
 | _=>[]
noncomputable def b8C:DataW Unit→Array Value
 | .agg ds=>(ds.flatMap c4P).toArray
 | _=>#[]
noncomputable def a9N (g : Nat) (vs : Array Value) (hp : Array Obj) : Array Obj := hp.modify g fun
     | .cells _ t fz=>.cells vs t fz
     | o=>o
noncomputable def a9h (os:Os):World:=
 { World.holding Tryz.prog os ⟨#[],#[],[]⟩ with heap:=a9N 8 (b8C Rows.laid_math_bits_deBruijn32tab) (a9N 9 (b8C Rows.laid_math_bits_deBruijn64tab) (a9N 7 (b8C Rows.laid_internal_strconv_uint64pow10) (a9N 6 (b8C Rows.laid_unicode_utf8_acceptRanges) (a9N 5 (b8C Rows.laid_unicode_utf8_first) (a9N 3 c1t.toArray (a9N 1 a6K.toArray (a9N 2 a6g.toArray (a9N 0 b9C.toArray (World.holding Tryz.prog os ⟨#[],#[],[]⟩).heap)))))))) }
theorem a8k (os:Os) (args:Array Value):laidMet Tryz.prog a9q ((a9h os).forCall (fun _ _=>0) ⟨#[],args,[]⟩).memory:=
 laidMet_of_run' 8 (by kernel_rfl) (by kernel_rfl)
end Go.Proofs.YtcfemegngeijcaaGreatDoor
end
section
namespace Go.Proofs.YtcfemegngeijcaaGreatDoor
set_option maxRecDepth 100000
set_option maxHeartbeats 2000000
open Go Go.Eng Go.Ty Go.Xp Go.RowKit Go.ChangeShapes Go.WideShapes Go.ChangeAt Go.Joins
variable {H:Type} {enc:TypeId × Value→H} {W:World}
theorem a5P:Tryz.prog.cellsOf 28=6:=by kernel_rfl
theorem c0D:∀ (G7:Nat) {cs:List Value} {x:DataW H × List MemPlace},RdT enc Tryz.prog W true G7 28 cs x→(∀ q ∈ x.1.weights Tryz.prog 28,q≤reachBytes)→∃ e:Ex,cs=exE e∧TOk (G9 W) [] e∧Wf e:=by
 intro G7
 induction G7 using Nat.strongRecOn with
 | _ G7 ih=>
 intro cs x hr hw
 obtain⟨hl,f,hfu,hf⟩:=R2 a1r hr
 rw[a5P] at hl
 match cs,hl with
 | [c0,c1,c2,c3,c4,c5],_=>
   obtain⟨_,_,h0,_⟩:=hf _ (.head _)
   obtain⟨_,_,h1,_⟩:=hf _ (.tail _ (.head _))
   obtain⟨_,_,h2,_⟩:=hf _ (.tail _ (.tail _ (.head _)))
   obtain⟨_,_,h3,_⟩:=hf _ (.tail _ (.tail _ (.tail _ (.head _))))
   obtain⟨_,_,h4,k4⟩:=hf _ (.tail _ (.tail _ (.tail _ (.tail _ (.head _)))))
   obtain⟨d5,p5,h5,k5⟩:=hf _ (.tail _ (.tail _ (.tail _ (.tail _ (.tail _ (.head _))))))
   obtain⟨n0,e0,w0⟩:=a0J c4e h0
   obtain⟨n1,e1,w1⟩:=a0J c1J h1
   obtain⟨n2,e2,w2⟩:=a0J b3f h2
   obtain⟨n3,e3,w3⟩:=a0J a2E h3
   obtain⟨n4,e4,w4⟩:=a9C uu9 h4
   obtain⟨a,n,c,l,e5,hll,hs,hp⟩:=Q9 (Pr:=fun e:Ex=>TOk (G9 W) [] e∧Wf e) (enc':=exE) c0L a5P (by decide) a0n (fun g ys y hg hy hk=>by
     obtain⟨e,he1,he2⟩:=ih g (by omega) hy fun q hq=>hw q (k5 q (hk q hq))
     exact⟨e,he1,he2⟩) h5
   obtain rfl:c0=.int .u8 n0:=List.head_eq_of_cons_eq e0
   obtain rfl:c1=.int .u8 n1:=List.head_eq_of_cons_eq e1
   obtain rfl:c2=.int .u8 n2:=List.head_eq_of_cons_eq e2
   obtain rfl:c3=.int .i32 n3:=List.head_eq_of_cons_eq e3
   obtain rfl:c4=str n4:=List.head_eq_of_cons_eq e4
   obtain rfl:c5=.slice a n c:=List.head_eq_of_cons_eq e5
   subst hll
   have u0:0≤n0∧n0≤255:=by simpa [Lit.wf,show IntKind.u8.min=0 from rfl,show IntKind.u8.max=255 from rfl] using w0
   have u1:0≤n1∧n1≤255:=by simpa [Lit.wf,show IntKind.u8.min=0 from rfl,show IntKind.u8.max=255 from rfl] using w1
   have u2:0≤n2∧n2≤255:=by simpa [Lit.wf,show IntKind.u8.min=0 from rfl,show IntKind.u8.max=255 from rfl] using w2
   have u3:-2147483648≤n3∧n3≤2147483647:=by simp[Lit.wf] at w3;exact w3
   exact⟨.mk n0 n1 n2 n3 n4 a c l,rfl,.mk (Rd.ofSl hs) fun y hy=>(hp y hy).1,.mk u0 u1 u2 u3 (Nat.le_trans (hw _ (k4 _ w4)) (by decide)) fun y hy=>(hp y hy).2⟩
end Go.Proofs.YtcfemegngeijcaaGreatDoor
end
section
namespace Go.Proofs.YtcfemegngeijcaaGreatDoor
set_option maxRecDepth 100000
set_option maxHeartbeats 2000000
open Go.Xp hiding B
open Go Go.Eng Go.Ty Go.Pc Go.RowKit Go.ChangeShapes Go.WideShapes Go.ChangeAt Go.Joins
open Go.Lx (encB C8)
variable {H:Type} {enc:TypeId × Value→H} {W:World}
abbrev Wt (x:DataW H × List MemPlace) (t:TypeId):Prop:=∀ q ∈ x.1.weights Tryz.prog t,q≤reachBytes
theorem E6 (cs:List Value) (i n:Nat):cs.drop i=(cs.drop i).take n++cs.drop (i+n):=by
 rw[← List.drop_drop,List.take_append_drop]
theorem b6C:Tryz.prog.cellsOf 9=1:=by kernel_rfl
theorem b6i:Tryz.prog.cellsOf 3=1:=by kernel_rfl
theorem b9H:Tryz.prog.cellsOf 36=4:=by kernel_rfl
theorem b4b:Tryz.prog.cellsOf 122=2:=by kernel_rfl
theorem b9U:Tryz.prog.cellsOf 25=1:=by kernel_rfl
theorem b9u:Tryz.prog.cellsOf 40=2:=by kernel_rfl
theorem b3v:Tryz.prog.cellsOf 87=6:=by kernel_rfl
theorem b9l:Tryz.prog.cellsOf 30=13:=by kernel_rfl
theorem c0t:Tryz.prog.cellsOf 43=16:=by kernel_rfl
theorem b3s:Tryz.prog.cellsOf 57=23:=by kernel_rfl
theorem b3M:Tryz.prog.cellsOf 45=42:=by kernel_rfl
theorem b0C {n:Int} (w:(Lit.int .u8 n).wf=true):0≤n∧n≤255:=by simpa [Lit.wf,show IntKind.u8.min=0 from rfl,show IntKind.u8.max=255 from rfl] using w
theorem b7u {n:Int} (w:(Lit.int .i64 n).wf=true):-9223372036854775808≤n∧n≤9223372036854775807:=by
 simp[Lit.wf] at w
 exact w
theorem b1j {G7:Nat} {cs:List Value} {x:DataW H × List MemPlace} (hr:RdT enc Tryz.prog W true G7 36 cs x) (hw:Wt x 36):∃ t:Ty,cs=I8 t∧TyW t:=by
 obtain⟨hl,f,_,hf⟩:=R2 a8t hr
 rw[b9H] at hl
 match cs,hl with
 | [c0,c1,c2,c3],_=>
   obtain⟨_,_,h0,_⟩:=hf _ (.head _)
   obtain⟨_,_,h1,_⟩:=hf _ (.tail _ (.head _))
   obtain⟨_,_,h2,_⟩:=hf _ (.tail _ (.tail _ (.head _)))
   obtain⟨_,_,h3,k3⟩:=hf _ (.tail _ (.tail _ (.tail _ (.head _))))
   obtain⟨n0,e0,w0⟩:=a0J b3f h0
   obtain⟨n1,e1,w1⟩:=a0J uu3 h1
   obtain⟨n2,e2,w2⟩:=a0J b3f h2
   obtain⟨n3,e3,w3⟩:=a9C uu9 h3
   obtain rfl:c0=.int .u8 n0:=List.head_eq_of_cons_eq e0
   obtain rfl:c1=.int .i64 n1:=List.head_eq_of_cons_eq e1
   obtain rfl:c2=.int .u8 n2:=List.head_eq_of_cons_eq e2
   obtain rfl:c3=str n3:=List.head_eq_of_cons_eq e3
   exact⟨⟨n0,n1,n2,n3⟩,rfl,b0C w0,b0C w2,b7u w1,Nat.le_trans (hw _ (k3 _ w3)) (by decide)⟩
theorem a0Z {G7:Nat} {cs:List Value} {x:DataW H × List MemPlace} (hr:RdT enc Tryz.prog W true G7 9 cs x) (hw:Wt x 9):∃ s:List UInt8,cs=encB s∧s.length≤Big:=by
 obtain⟨s,e,w⟩:=a9C uu9 hr
 exact⟨s,e,Nat.le_trans (hw _ w) (by decide)⟩
theorem c0K {G7:Nat} {cs:List Value} {x:DataW H × List MemPlace} (hr:RdT enc Tryz.prog W true G7 87 cs x) (hw:Wt x 87):∃ f:Fo,cs=foE f∧FoW f:=by
 obtain⟨hl,f,_,hf⟩:=R2 b6z hr
 rw[b3v] at hl
 obtain⟨_,_,h0,_⟩:=hf _ (.head _)
 obtain⟨_,_,h1,k1⟩:=hf _ (.tail _ (.head _))
 obtain⟨_,_,h2,k2⟩:=hf _ (.tail _ (.tail _ (.head _)))
 obtain⟨b,e0⟩:=b4t uu4 h0
 obtain⟨t,e1,w1⟩:=b1j h1 fun q hq=>hw q (k1 q hq)
 obtain⟨s,e2,w2⟩:=a0Z h2 fun q hq=>hw q (k2 q hq)
 refine⟨⟨b,t,s⟩,?_,w1,w2⟩
 have h:cs.drop 6=[]:=List.drop_eq_nil_of_le (by omega)
 rw[show cs=cs.drop 0 from rfl,E6 cs 0 1,show(cs.drop 0).take 1=_ from e0,E6 cs 1 4,show(cs.drop (0+1)).take 4=_ from e1,E6 cs 5 1,show(cs.drop (1+4)).take 1=_ from e2,h]
 rfl
theorem a0u {G7:Nat} {cs:List Value} {x:DataW H × List MemPlace} (hr:RdT enc Tryz.prog W true G7 28 cs x) (hw:Wt x 28):∃ e:Ex,cs=exE e∧EOk (G9 W) [] e:=by
 obtain⟨e,h1,h2,h3⟩:=c0D G7 hr hw
 exact⟨e,h1,h2,h3⟩
theorem a5o {G7:Nat} {cs:List Value} {x:DataW H × List MemPlace} (hr:RdT enc Tryz.prog W true G7 26 cs x) (hw:Wt x 26):∃ s:Sli Ex,cs=[.slice s.a s.l.length s.c]∧LOk (G9 W) [] s:=by
 obtain⟨a,n,c,l,e,hl,hs,hp⟩:=Q9 (Pr:=fun e:Ex=>EOk (G9 W) [] e) (enc':=exE) c0L a5P (by decide) a0n (fun g ys y _ hy hk=>a0u hy fun q hq=>hw q (hk q hq)) hr
 subst hl
 exact⟨⟨a,c,l⟩,e,Rd.ofSl hs,hp⟩
theorem b5e {G7:Nat} {cs:List Value} {x:DataW H × List MemPlace} (hr:RdT enc Tryz.prog W true G7 37 cs x) (hw:Wt x 37):∃ s:Sli B,cs=[.slice s.a s.l.length s.c]∧Rd (G9 W) [] s.a s.l.length s.c 1 (fl encB s.l)∧∀ x ∈ s.l,x.length≤Big:=by
 obtain⟨a,n,c,l,e,hl,hs,hp⟩:=Q9 (Pr:=fun x:B=>x.length≤Big) (enc':=encB) c3v b6C (by decide) C8 (fun g ys y _ hy hk=>a0Z hy fun q hq=>hw q (hk q hq)) hr
 subst hl
 exact⟨⟨a,c,l⟩,e,Rd.ofSl hs,hp⟩
theorem b4R {G7:Nat} {cs:List Value} {x:DataW H × List MemPlace} (hr:RdT enc Tryz.prog W true G7 33 cs x):∃ s:Sli Int,cs=[.slice s.a s.l.length s.c]∧Rd (G9 W) [] s.a s.l.length s.c 1 (fl a2e s.l)∧∀ x ∈ s.l,-9223372036854775808≤x∧x≤9223372036854775807:=by
 obtain⟨a,n,c,l,e,hl,hs,hp⟩:=Q9 (Pr:=fun x:Int=>-9223372036854775808≤x∧x≤9223372036854775807) (enc':=a2e) c4f b6i (by decide) a2u (fun g ys y _ hy _=>by
   obtain⟨n,e,w⟩:=a0J uu3 hy
   exact⟨n,e,b7u w⟩) hr
 subst hl
 exact⟨⟨a,c,l⟩,e,Rd.ofSl hs,hp⟩
theorem b7j {G7:Nat} {cs:List Value} {x:DataW H × List MemPlace} (hr:RdT enc Tryz.prog W true G7 41 cs x) (hw:Wt x 41):∃ s:Sli Fo,cs=[.slice s.a s.l.length s.c]∧Rd (G9 W) [] s.a s.l.length s.c 6 (fl foE s.l)∧∀ x ∈ s.l,FoW x:=by
 obtain⟨a,n,c,l,e,hl,hs,hp⟩:=Q9 (Pr:=fun x:Fo=>FoW x) (enc':=foE) c4c b3v (by decide) a2J (fun g ys y _ hy hk=>c0K hy fun q hq=>hw q (hk q hq)) hr
 subst hl
 exact⟨⟨a,c,l⟩,e,Rd.ofSl hs,hp⟩
theorem c0f {G7:Nat} {cs:List Value} {x:DataW H × List MemPlace} (hr:RdT enc Tryz.prog W true G7 30 cs x) (hw:Wt x 30):∃ r:Rp,cs=rpE r∧r.name.length≤Big∧EOk (G9 W) [] r.base∧EOk (G9 W) [] r.count:=by
 obtain⟨hl,f,_,hf⟩:=R2 b9B hr
 rw[b9l] at hl
 obtain⟨_,_,h0,k0⟩:=hf _ (.head _)
 obtain⟨_,_,h1,k1⟩:=hf _ (.tail _ (.head _))
 obtain⟨_,_,h2,k2⟩:=hf _ (.tail _ (.tail _ (.head _)))
 obtain⟨s,e0,w0⟩:=a0Z h0 fun q hq=>hw q (k0 q hq)
 obtain⟨b,e1,w1⟩:=a0u h1 fun q hq=>hw q (k1 q hq)
 obtain⟨c,e2,w2⟩:=a0u h2 fun q hq=>hw q (k2 q hq)
 refine⟨⟨s,b,c⟩,?_,w0,w1,w2⟩
 have h:cs.drop 13=[]:=List.drop_eq_nil_of_le (by omega)
 rw[show cs=cs.drop 0 from rfl,E6 cs 0 1,show(cs.drop 0).take 1=_ from e0,E6 cs 1 6,show(cs.drop (0+1)).take 6=_ from e1,E6 cs 7 6,show(cs.drop (1+6)).take 6=_ from e2,h]
 rfl
theorem b7E {G7:Nat} {cs:List Value} {x:DataW H × List MemPlace} (hr:RdT enc Tryz.prog W true G7 122 cs x) (hw:Wt x 122):∃ v:Vr,cs=encV v∧(VOk (G9 W) [] v∧v.tag.length≤9223372036854775807)∧v.items.length=v.n:=by
 obtain⟨hl,f,_,hf⟩:=R2 a8U hr
 rw[b4b] at hl
 match cs,hl with
 | [c0,c1],_=>
   obtain⟨_,_,h0,k0⟩:=hf _ (.head _)
   obtain⟨_,_,h1,k1⟩:=hf _ (.tail _ (.head _))
   obtain⟨n0,e0,w0⟩:=a0Z h0 fun q hq=>hw q (k0 q hq)
   obtain⟨a,n,c,l,e1,hll,hs,_⟩:=Q9 (Pr:=fun _:Int=>True) (enc':=M0) b0X b9U (by decide) D5 (fun g ys y _ hy _=>by
     obtain⟨n,e,_⟩:=a0J b3f hy
     exact⟨n,e,trivial⟩) h1
   obtain rfl:c0=str n0:=List.head_eq_of_cons_eq e0
   obtain rfl:c1=.slice a n c:=List.head_eq_of_cons_eq e1
   exact⟨⟨n0,a,n,c,l⟩,rfl,⟨⟨Rd.ofSl hs⟩,Nat.le_trans w0 (by decide)⟩,hll⟩
theorem c03 {G7:Nat} {cs:List Value} {x:DataW H × List MemPlace} (hr:RdT enc Tryz.prog W true G7 40 cs x) (hw:Wt x 40):∃ (b:Bool) (s:Sli Vr),cs=[.bool b,.slice s.a s.l.length s.c]∧PrOk (G9 W) [] s.a s.l.length s.c s.l∧∀ x ∈ s.l,x.items.length=x.n:=by
 obtain⟨hl,f,_,hf⟩:=R2 b65 hr
 rw[b9u] at hl
 match cs,hl with
 | [c0,c1],_=>
   obtain⟨_,_,h0,_⟩:=hf _ (.head _)
   obtain⟨_,_,h1,k1⟩:=hf _ (.tail _ (.head _))
   obtain⟨b,e0⟩:=b4t uu4 h0
   obtain⟨a,n,c,l,e1,hll,hs,hp⟩:=Q9 (Pr:=fun v:Vr=>(VOk (G9 W) [] v∧v.tag.length≤9223372036854775807)∧v.items.length=v.n) (enc':=encV) c0S b4b (by decide) D9 (fun g ys y _ hy hk=>b7E hy fun q hq=>hw q (k1 q (hk q hq))) h1
   obtain rfl:c0=.bool b:=List.head_eq_of_cons_eq e0
   obtain rfl:c1=.slice a n c:=List.head_eq_of_cons_eq e1
   subst hll
   exact⟨b,⟨a,c,l⟩,rfl,⟨Rd.ofSl hs,fun v hv=>(hp v hv).1.1,fun v hv=>(hp v hv).1.2⟩,fun v hv=>(hp v hv).2⟩
abbrev PsR (G7:Nat):Prop:=∀ g,g < G7→∀ {cs:List Value} {x:DataW H × List MemPlace},RdT enc Tryz.prog W true g 45 cs x→Wt x 45→∃ p:Pr,cs=prE p∧POk (G9 W) [] p
theorem a7g {G7:Nat} (ih:PsR (enc:=enc) (W:=W) G7) {cs:List Value} {x:DataW H × List MemPlace} (hr:RdT enc Tryz.prog W true G7 32 cs x) (hw:Wt x 32) :
   ∃ a c l,cs=[.slice a l.length c]∧Rd (G9 W) [] a l.length c 42 (fl prE l)∧∀ p ∈ l,POk (G9 W) [] p:=by
 obtain⟨a,n,c,l,e,hl,hs,hp⟩:=Q9 (Pr:=fun p:Pr=>POk (G9 W) [] p) (enc':=prE) b9r b3M (by decide) a0U (fun g ys y hg hy hk=>ih g hg hy fun q hq=>hw q (hk q hq)) hr
 subst hl
 exact⟨a,c,l,e,Rd.ofSl hs,hp⟩
theorem PsR.less {f g:Nat} (ih:PsR (enc:=enc) (W:=W) f) (h:g≤f):PsR (enc:=enc) (W:=W) g:=fun k hk=>ih k (Nat.lt_of_lt_of_le hk h)
theorem b9w {G7:Nat} (ih:PsR (enc:=enc) (W:=W) G7) {cs:List Value} {x:DataW H × List MemPlace} (hr:RdT enc Tryz.prog W true G7 43 cs x) (hw:Wt x 43) :
   ∃ s:Sp,cs=spE s∧SOk (G9 W) [] s∧∀ p ∈ s.bl,POk (G9 W) [] p:=by
 obtain⟨hl,f,hfu,hf⟩:=R2 a79 hr
 rw[c0t] at hl
 obtain⟨_,_,h0,_⟩:=hf _ (.head _)
 obtain⟨_,_,h1,k1⟩:=hf _ (.tail _ (.head _))
 obtain⟨_,_,h2,k2⟩:=hf _ (.tail _ (.tail _ (.head _)))
 obtain⟨_,_,h3,k3⟩:=hf _ (.tail _ (.tail _ (.tail _ (.head _))))
 obtain⟨_,_,h4,k4⟩:=hf _ (.tail _ (.tail _ (.tail _ (.tail _ (.head _)))))
 obtain⟨_,_,h5,k5⟩:=hf _ (.tail _ (.tail _ (.tail _ (.tail _ (.tail _ (.head _))))))
 obtain⟨_,_,h6,k6⟩:=hf _ (.tail _ (.tail _ (.tail _ (.tail _ (.tail _ (.tail _ (.head _)))))))
 obtain⟨n0,e0,w0⟩:=a0J c3N h0
 obtain⟨t1,e1,w1⟩:=b1j h1 fun q hq=>hw q (k1 q hq)
 obtain⟨s2,e2,r2,w2⟩:=b5e h2 fun q hq=>hw q (k2 q hq)
 obtain⟨x3,e3,w3⟩:=a0u h3 fun q hq=>hw q (k3 q hq)
 obtain⟨b4,s4,e4,r4,w4⟩:=c03 h4 fun q hq=>hw q (k4 q hq)
 obtain⟨s5,e5,r5,w5⟩:=b7j h5 fun q hq=>hw q (k5 q hq)
 obtain⟨a6,c6,l6,e6,r6,w6⟩:=a7g (ih.less (by omega)) h6 fun q hq=>hw q (k6 q hq)
 refine⟨.mk n0 t1 s2 x3 b4 s4 s5 a6 c6 l6,?_,⟨b0C w0,w1,r2,w2,w3,r4,w4,r5,w5,r6⟩,w6⟩
 have h:cs.drop 16=[]:=List.drop_eq_nil_of_le (by omega)
 rw[show cs=cs.drop 0 from rfl,E6 cs 0 1,show(cs.drop 0).take 1=_ from e0,E6 cs 1 4,show(cs.drop (0+1)).take 4=_ from e1,E6 cs 5 1,show(cs.drop (1+4)).take 1=_ from e2,
   E6 cs 6 6,show(cs.drop (5+1)).take 6=_ from e3,E6 cs 12 2,show(cs.drop (6+6)).take 2=_ from e4,E6 cs 14 1,show(cs.drop (12+2)).take 1=_ from e5,E6 cs 15 1,show(cs.drop (14+1)).take 1=_ from e6,h]
 rfl
theorem b97 {G7:Nat} (ih:PsR (enc:=enc) (W:=W) G7) {cs:List Value} {x:DataW H × List MemPlace} (hr:RdT enc Tryz.prog W true G7 57 cs x) (hw:Wt x 57) :
   ∃ g:Gu,cs=guE g∧GOk (G9 W) [] g∧∀ p ∈ g.bl,POk (G9 W) [] p:=by
 obtain⟨hl,f,hfu,hf⟩:=R2 a8y hr
 rw[b3s] at hl
 obtain⟨_,_,h0,_⟩:=hf _ (.head _)
 obtain⟨_,_,h1,k1⟩:=hf _ (.tail _ (.head _))
 obtain⟨_,_,h2,k2⟩:=hf _ (.tail _ (.tail _ (.head _)))
 obtain⟨_,_,h3,k3⟩:=hf _ (.tail _ (.tail _ (.tail _ (.head _))))
 obtain⟨_,_,h4,k4⟩:=hf _ (.tail _ (.tail _ (.tail _ (.tail _ (.head _)))))
 obtain⟨_,_,h5,k5⟩:=hf _ (.tail _ (.tail _ (.tail _ (.tail _ (.tail _ (.head _))))))
 obtain⟨_,_,h6,k6⟩:=hf _ (.tail _ (.tail _ (.tail _ (.tail _ (.tail _ (.tail _ (.head _)))))))
 obtain⟨_,_,h7,k7⟩:=hf _ (.tail _ (.tail _ (.tail _ (.tail _ (.tail _ (.tail _ (.tail _ (.head _))))))))
 obtain⟨n0,e0,w0⟩:=a0J b6J h0
 obtain⟨s1,e1,w1⟩:=a0Z h1 fun q hq=>hw q (k1 q hq)
 obtain⟨x2,e2,w2⟩:=a0u h2 fun q hq=>hw q (k2 q hq)
 obtain⟨x3,e3,w3⟩:=a0u h3 fun q hq=>hw q (k3 q hq)
 obtain⟨s4,e4,w4⟩:=a5o h4 fun q hq=>hw q (k4 q hq)
 obtain⟨s5,e5,w5⟩:=a5o h5 fun q hq=>hw q (k5 q hq)
 obtain⟨x6,e6,w6⟩:=a0u h6 fun q hq=>hw q (k6 q hq)
 obtain⟨a7,c7,l7,e7,r7,w7⟩:=a7g (ih.less (by omega)) h7 fun q hq=>hw q (k7 q hq)
 refine⟨.mk n0 s1 x2 x3 s4 s5 x6 a7 c7 l7,?_,⟨b0C w0,w1,w2,w3,w4,w5,w6,r7⟩,w7⟩
 have h:cs.drop 23=[]:=List.drop_eq_nil_of_le (by omega)
 rw[show cs=cs.drop 0 from rfl,E6 cs 0 1,show(cs.drop 0).take 1=_ from e0,E6 cs 1 1,show(cs.drop (0+1)).take 1=_ from e1,E6 cs 2 6,show(cs.drop (1+1)).take 6=_ from e2,
   E6 cs 8 6,show(cs.drop (2+6)).take 6=_ from e3,E6 cs 14 1,show(cs.drop (8+6)).take 1=_ from e4,E6 cs 15 1,show(cs.drop (14+1)).take 1=_ from e5,E6 cs 16 6,show(cs.drop (15+1)).take 6=_ from e6,E6 cs 22 1,show(cs.drop (16+6)).take 1=_ from e7,h]
 rfl
theorem b6k {G7:Nat} (ih:PsR (enc:=enc) (W:=W) G7) {cs:List Value} {x:DataW H × List MemPlace} (hr:RdT enc Tryz.prog W true G7 31 cs x) (hw:Wt x 31) :
   ∃ a c l,cs=[.slice a l.length c]∧Rd (G9 W) [] a l.length c 23 (fl guE l)∧∀ g ∈ l,GOk (G9 W) [] g∧∀ p ∈ g.bl,POk (G9 W) [] p:=by
 obtain⟨a,n,c,l,e,hl,hs,hp⟩:=Q9 (Pr:=fun g:Gu=>GOk (G9 W) [] g∧∀ p ∈ g.bl,POk (G9 W) [] p) (enc':=guE) c4h b3s (by decide) a2b (fun g ys y hg hy hk=>b97 (ih.less (by omega)) hy fun q hq=>hw q (hk q hq)) hr
 subst hl
 exact⟨a,c,l,e,Rd.ofSl hs,hp⟩
theorem c0s:∀ (G7:Nat) {cs:List Value} {x:DataW H × List MemPlace},RdT enc Tryz.prog W true G7 45 cs x→Wt x 45→∃ p:Pr,cs=prE p∧POk (G9 W) [] p:=by
 intro G7
 induction G7 using Nat.strongRecOn with
 | _ G7 ih=>
 intro cs x hr hw
 replace ih:PsR (enc:=enc) (W:=W) G7:=fun g hg=>ih g hg
 obtain⟨hl,f,hfu,hf⟩:=R2 O9 hr
 rw[b3M] at hl
 obtain⟨_,_,h0,_⟩:=hf _ (.head _)
 obtain⟨_,_,h1,k1⟩:=hf _ (.tail _ (.head _))
 obtain⟨_,_,h2,k2⟩:=hf _ (.tail _ (.tail _ (.head _)))
 obtain⟨_,_,h3,k3⟩:=hf _ (.tail _ (.tail _ (.tail _ (.head _))))
 obtain⟨_,_,h4,k4⟩:=hf _ (.tail _ (.tail _ (.tail _ (.tail _ (.head _)))))
 obtain⟨_,_,h5,k5⟩:=hf _ (.tail _ (.tail _ (.tail _ (.tail _ (.tail _ (.head _))))))
 obtain⟨_,_,h6,k6⟩:=hf _ (.tail _ (.tail _ (.tail _ (.tail _ (.tail _ (.tail _ (.head _)))))))
 obtain⟨_,_,h7,k7⟩:=hf _ (.tail _ (.tail _ (.tail _ (.tail _ (.tail _ (.tail _ (.tail _ (.head _))))))))
 obtain⟨_,_,h8,_⟩:=hf _ (.tail _ (.tail _ (.tail _ (.tail _ (.tail _ (.tail _ (.tail _ (.tail _ (.head _)))))))))
 obtain⟨_,_,h9,k9⟩:=hf _ (.tail _ (.tail _ (.tail _ (.tail _ (.tail _ (.tail _ (.tail _ (.tail _ (.tail _ (.head _))))))))))
 obtain⟨n0,e0,w0⟩:=a0J c3q h0
 obtain⟨s1,e1,w1⟩:=a0Z h1 fun q hq=>hw q (k1 q hq)
 obtain⟨x2,e2,w2⟩:=a0u h2 fun q hq=>hw q (k2 q hq)
 obtain⟨s3,e3,w3⟩:=a5o h3 fun q hq=>hw q (k3 q hq)
 obtain⟨s4,e4,w4⟩:=a5o h4 fun q hq=>hw q (k4 q hq)
 obtain⟨r5,e5,w5,wb5,wc5⟩:=c0f h5 fun q hq=>hw q (k5 q hq)
 obtain⟨a6,c6,l6,e6,r6,w6⟩:=b6k (ih.less (by omega)) h6 fun q hq=>hw q (k6 q hq)
 obtain⟨a7,c7,l7,e7,r7,w7⟩:=a7g (ih.less (by omega)) h7 fun q hq=>hw q (k7 q hq)
 obtain⟨s8,e8,r8,w8⟩:=b4R h8
 obtain⟨s9,e9,r9,w9⟩:=b9w (ih.less (by omega)) h9 fun q hq=>hw q (k9 q hq)
 refine⟨.mk n0 s1 x2 s3 s4 r5 a6 c6 l6 a7 c7 l7 s8 s9,?_,.mk ⟨b0C w0,w1,w2,w3,w4,w5,wb5,wc5,r6,fun g hg=>(w6 g hg).1,r7,r8,w8,r9⟩ fun y hy=>?_⟩
 · have h:cs.drop 42=[]:=List.drop_eq_nil_of_le (by omega)
   rw[show cs=cs.drop 0 from rfl,E6 cs 0 1,show(cs.drop 0).take 1=_ from e0,E6 cs 1 1,show(cs.drop (0+1)).take 1=_ from e1,E6 cs 2 6,show(cs.drop (1+1)).take 6=_ from e2,
     E6 cs 8 1,show(cs.drop (2+6)).take 1=_ from e3,E6 cs 9 1,show(cs.drop (8+1)).take 1=_ from e4,E6 cs 10 13,show(cs.drop (9+1)).take 13=_ from e5,E6 cs 23 1,show(cs.drop (10+13)).take 1=_ from e6,
     E6 cs 24 1,show(cs.drop (23+1)).take 1=_ from e7,E6 cs 25 1,show(cs.drop (24+1)).take 1=_ from e8,E6 cs 26 16,show(cs.drop (25+1)).take 16=_ from e9,h]
   rfl
 · cases hy with
   | l h=>exact w7 y h
   | s h=>exact w9 y h
   | g hg h=>exact(w6 _ hg).2 y h
theorem b7K {r:Reach} {base:Nat} {v:Value} {d:DataW H} {p:List MemPlace} (hv:Value.okWide Tryz.prog W r base 45 v) (h:DataW.Trod enc Tryz.prog W 0 (fun _=>true) true 45 v d p) (hw:∀ q ∈ d.weights Tryz.prog 45,q≤reachBytes) :
   ∃ x:Pr,v=prV x∧POk (G9 W) [] x:=by
 obtain⟨cs,rfl,_⟩:=okWide_struct O9 hv
 obtain⟨G7,hf⟩:=h
 obtain⟨e,he,ht⟩:=c0s G7 (x:=(d,p)) hf hw
 refine⟨e,?_,ht⟩
 unfold Pc.prV
 rw[← show cs.toList=prE e from he]
end Go.Proofs.YtcfemegngeijcaaGreatDoor
end

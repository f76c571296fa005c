import Derived.Test.YtgcjpahhljmlmaaGreatDoorLParsesY8
import Derived.SevenTiedAt
import Derived.Test.YtgcjpahhljmlmaaGreatDoorCards
import Derived.Test.YtgcjpahhljmlmaaGreatDoorTie
import Derived.ChangeMaps5
set_option maxRecDepth 100000
set_option maxHeartbeats 4000000
namespace Go.Proofs.YtgcjpahhljmlmaaGreatDoor
open Go.Proofs.Tryz
section
open Go Go.Eng Go.RowKit Go.ChangeShapes Go.WideShapes Go.ChangeAt Go.Joins
theorem Tryz.own:ownKnob Tryz.prog.godebug=none:=by kernel_rfl
theorem Tryz.laidOut:laidOutB prog=true:=by kernel_rfl
theorem c5b:Tryz.prog.cellsOf 273=3:=by kernel_rfl
abbrev b2g : List (String × DataW Unit) := [("math/bits.deBruijn32tab", Rows.laid_math_bits_deBruijn32tab), ("math/bits.deBruijn64tab", Rows.laid_math_bits_deBruijn64tab), ("internal/strconv.uint64pow10", Rows.laid_internal_strconv_uint64pow10), ("unicode/utf8.acceptRanges", Rows.laid_unicode_utf8_acceptRanges), ("transputer/types.primitive", Rows.laid_transputer_types_primitive), ("transputer/syntax.one", Rows.laid_transputer_syntax_one), ("transputer/syntax.some", Rows.laid_transputer_syntax_some), ("transputer/syntax.all", Rows.laid_transputer_syntax_all), ("unicode/utf8.first", Rows.laid_unicode_utf8_first)]
theorem b3f{W:World}{V8:Nat}{ys:Lv}{kd sz:Int}{wd:List UInt8}{p:List MemPlace}
 (h:DataW.trod (λ_=>()) prog W 0 (λ_=>true) false V8 273 ys=some (.agg [.lit (.int .u8 kd),.lit (.string wd),.lit (.int .i64 sz)],p)) :
 ys[0]?=some (.int .u8 kd)/\ys[1]?=some (str wd)/\ys[2]?=some (.int .i64 sz):=by
 obtain⟨f,hf⟩:=a8l b4g h;obtain⟨_,h0⟩:=hf 0 _ _ rfl rfl;obtain⟨_,h1⟩:=hf 1 _ _ rfl rfl;obtain⟨_,h2⟩:=hf 2 _ _ rfl rfl;exact⟨Eng.cell_of_cut (a6L c8C h0),Eng.cell_of_cut (c3U uu9 h1),Eng.cell_of_cut (a6L uu3 h2)⟩
theorem a4h{cs ys:Lv}{i j:Nat}{v:Value}(e:(cs.drop (i*3)).take 3=ys)(h:ys[j]?=some v):cs[i*3+j]?=some v:=by
 subst e;rw[ja]at h;split at h
 ·rwa [zL]at h
 ·cases h
theorem b3i{W:World}{V8:Nat}{ys:Lv}{a b:Int}{p:List MemPlace}(h:DataW.trod (λ_=>()) prog W 0 (λ_=>true) false V8 172 ys=some (.agg [.lit (.int .i64 a),.lit (.int .i64 b)],p)) :
 ∀(j:Nat)(v:Value),([.int .i64 a,.int .i64 b]:Lv)[j]?=some v->ys[j]?=some v:=by
 obtain⟨f,hf⟩:=a8l W5 h;obtain⟨_,h0⟩:=hf 0 _ _ rfl rfl;obtain⟨_,h1⟩:=hf 1 _ _ rfl rfl;have e0:=Eng.cell_of_cut (a6L uu3 h0);have e1:=Eng.cell_of_cut (a6L uu3 h1);intro j v hj;match j,hj with
 |0,hj=>cases hj;exact e0
 |1,hj=>cases hj;exact e1
theorem c6l{W:World}(h:laidMet prog b2g W)(hsh:W.ShapedOpen prog):Glob (a1X W):=by
 obtain⟨_,⟨_,_,_,_,_,_,_,_,_,_,⟨_,_,_,_,_,_,_,_,_,_,⟨_,_,_,_,_,_,_,_,_,_,⟨_,_,_,_,_,_,_,_,_,_,⟨g4,t4,cs4,f4,p4,q4,hg4,ht4,hv4,hd4,⟨g5,t5,cs5,f5,p5,q5,hg5,ht5,hv5,hd5,⟨g6,t6,cs6,f6,p6,q6,hg6,ht6,hv6,hd6,⟨g7,t7,cs7,f7,p7,q7,hg7,ht7,hv7,hd7,_,_⟩,_⟩,_⟩,_⟩,_⟩,_⟩,_⟩,_⟩,_⟩:=h;obtain rfl := qM ((show Tryz.prog.globalNamed "transputer/types.primitive" = some 4 by kernel_rfl).symm.trans hg4);obtain rfl:=qM ((show(Tryz.prog.globals[4]?).map (·.type)=some 274 by kernel_rfl).symm.trans ht4);obtain rfl := qM ((show Tryz.prog.globalNamed "transputer/syntax.one" = some 1 by kernel_rfl).symm.trans hg5);obtain rfl:=qM ((show(Tryz.prog.globals[1]?).map (·.type)=some 172 by kernel_rfl).symm.trans ht5);obtain rfl := qM ((show Tryz.prog.globalNamed "transputer/syntax.some" = some 2 by kernel_rfl).symm.trans hg6)
 obtain rfl:=qM ((show(Tryz.prog.globals[2]?).map (·.type)=some 172 by kernel_rfl).symm.trans ht6);obtain rfl := qM ((show Tryz.prog.globalNamed "transputer/syntax.all" = some 0 by kernel_rfl).symm.trans hg7);obtain rfl:=qM ((show(Tryz.prog.globals[0]?).map (·.type)=some 172 by kernel_rfl).symm.trans ht7);refine⟨(Tryz.laysM144.s1_3 W hsh).imp fun _ e=>a0H e,fun j v hj=>a0H ?_,fun j v hj=>a0H ?_,fun j v hj=>a0H ?_,fun j v hj=>a0H ?_⟩
 ·obtain⟨f,hf⟩:=b5N a8m hd4
  obtain⟨_,h0⟩:=hf 0 _ (by decide) rfl;obtain⟨_,h1⟩:=hf 1 _ (by decide) rfl;obtain⟨_,h2⟩:=hf 2 _ (by decide) rfl;rw[c5b]at h0 h1 h2;have a0:=b3f h0;have a1:=b3f h1;have a2:=b3f h2;rw[World.var?_cell hg4 hv4 j,<-jf];match j,hj with
  |0,hj=>cases hj;exact a4h (i:=0) rfl a0.1
  |1,hj=>cases hj;exact a4h (i:=0) rfl a0.2.1
  |2,hj=>cases hj;exact a4h (i:=0) rfl a0.2.2
  |3,hj=>cases hj;exact a4h (i:=1) rfl a1.1
  |4,hj=>cases hj;exact a4h (i:=1) rfl a1.2.1
  |5,hj=>cases hj;exact a4h (i:=1) rfl a1.2.2
  |6,hj=>cases hj;exact a4h (i:=2) rfl a2.1
  |7,hj=>cases hj;exact a4h (i:=2) rfl a2.2.1
  |8,hj=>cases hj;exact a4h (i:=2) rfl a2.2.2
 ·rw[World.var?_cell hg5 hv5 j,<-jf]
  exact b3i hd5 j v hj
 ·rw[World.var?_cell hg6 hv6 j,<-jf]
  exact b3i hd6 j v hj
 ·rw[World.var?_cell hg7 hv7 j,<-jf]
  exact b3i hd7 j v hj
theorem c8n {W : World} (h : laidMet prog b2g W) : Lib.TabIs prog W "internal/strconv.uint64pow10" .u64 Lib.pow10Tab := by
 obtain⟨_,⟨_,_,_,_,_,_,_,_,_,_,⟨_,_,_,_,_,_,_,_,_,_,⟨g2,t2,cs2,f2,p2,q2,hg2,ht2,hv2,hd2,_,_⟩,_⟩,_⟩,_⟩:=h;have hg : Tryz.prog.globalNamed "internal/strconv.uint64pow10" = some 7 := by kernel_rfl
 have hty:(Tryz.prog.globals[7]?).map (·.type)=some 345:=by kernel_rfl
 obtain rfl:=qM (hg.symm.trans hg2);obtain rfl:=qM (hty.symm.trans ht2);unfold Lib.TabIs;rw[hv2,<-Lib.cells_of_tab (zs:=Lib.pow10Tab) c6N c6H (by kernel_rfl) (by kernel_rfl) hd2]
theorem c7z {W w : World} {h : Lr} (ht : Lib.TabIs prog W "internal/strconv.uint64pow10" .u64 Lib.pow10Tab) (st : St (a1X W) h w) : Lib.TabIs prog w "internal/strconv.uint64pow10" .u64 Lib.pow10Tab := by
 unfold Lib.TabIs World.var? at ht ⊢;cases hg : Tryz.prog.globalNamed "internal/strconv.uint64pow10" with
 |none=>rw[hg]at ht;cases ht
 |some g=>
  rw[hg]at ht;simp only[Option.bind_some]at ht⊢;cases hb:W.heap[g]? with
  |none=>rw[hb]at ht;cases ht
  |some o=>rw[st.blk g o hb,<-hb];exact ht
theorem c7h{W:World}(h:laidMet prog b2g W):Pow (a1X W):=λ_ _ st=>c7z (c8n h) st
noncomputable def d08:DataW Unit->Lv
 | .lit (.int k z)=>[.int k z]
 |_=>[]
noncomputable def d07:DataW Unit->Lv
 | .lit (.int k z)=>[.int k z]
 | .agg ds=>ds.flatMap d08
 |_=>[]
noncomputable def c0L:DataW Unit->Array Value
 | .agg ds=>(ds.flatMap d07).toArray
 |_=>#[]
noncomputable def b2N (g:Nat) (vs:Array Value) (hp:Array Obj):Array Obj:=hp.modify g fun
 | .cells _ t fz=>.cells vs t fz
 |o=>o
noncomputable def b1A (os:Os):World:=
 { World.holding prog os ⟨#[],#[],[]⟩with heap:=b2N 8 (c0L Rows.laid_math_bits_deBruijn32tab) (b2N 9 (c0L Rows.laid_math_bits_deBruijn64tab) (b2N 7 (c0L Rows.laid_internal_strconv_uint64pow10) (b2N 6 (c0L Rows.laid_unicode_utf8_acceptRanges) (b2N 5 (c0L Rows.laid_unicode_utf8_first) (b2N 4 c6U.toArray (b2N 1 a9f.toArray (b2N 2 a8s.toArray (b2N 0 c4i.toArray (World.holding prog os ⟨#[],#[],[]⟩).heap)))))))) }
theorem b0U(os:Os)(args:Array Value):laidMet prog b2g ((b1A os).forCall (λ_ _=>0) ⟨#[],args,[]⟩).memory:=
 laidMet_of_run' 8 (by kernel_rfl) (by kernel_rfl)
end
section
open Go Go.Eng Go.Ty Go.Xp Go.RowKit Go.ChangeShapes Go.WideShapes Go.ChangeAt Go.Joins
variable {H:Type}{enc:TypeId×Value->H}{W:World}
end
section
open Go.Xp hiding B
open Go Go.Eng Go.Ty Go.Pc Go.RowKit Go.ChangeShapes Go.WideShapes Go.ChangeAt Go.Joins
open Go.Lx (encB C0)
variable {H:Type}{enc:TypeId×Value->H}{W:World}
abbrev Wt(x:DataW H×List MemPlace)(t:TypeId):Prop:=∀q∈x.1.weights prog t,q<=reachBytes
theorem c3W{n:Int}(w:(Lit.int .i64 n).wf=true):-9223372036854775808<=n/\n<=9223372036854775807:=by simp[Lit.wf]at w;exact w
abbrev PsR(V8:Nat):Prop:=∀g,g<V8->∀{cs:Lv}{x:DataW H×List MemPlace},RdT enc prog W true g 46 cs x->Wt x 46->∃p:Pr,cs=prE p/\POk (a1X W) [] p
theorem PsR.less{f g:Nat}(ih:PsR (enc:=enc) (W:=W) f)(h:g<=f):PsR (enc:=enc) (W:=W) g:=λk hk=>ih k (Nat.lt_of_lt_of_le hk h)
end
section
open Go Go.Eng Go.Ty Go.Pc Go.RowKit Go.ChangeShapes Go.WideShapes Go.ChangeAt Go.Joins
open Go.Ly (Rw K7 C6)
open Go.Sx (RwB)
variable {H:Type}{enc:TypeId×Value->H}{W:World}
theorem b8r:Tryz.prog.cellsOf 52=3:=by kernel_rfl
theorem c5R:Tryz.prog.bytesOf 52=32:=by kernel_rfl
theorem c6C{V8:Nat}{cs:Lv}{x:DataW H×List MemPlace}(hr:RdT enc prog W true V8 52 cs x)(hw:Wt x 52):∃r:Rw,cs=K7 r/\RwB r:=by
 obtain⟨hl,f,_,hf⟩:=b6I a8Y hr;rw[b8r]at hl;match cs,hl with
 | [c0,c1,c2],_=>obtain⟨_,_,h0,_⟩:=hf _ (.head _);obtain⟨_,_,h1,_⟩:=hf _ (.tail _ (.head _));obtain⟨_,_,h2,k2⟩:=hf _ (.tail _ (.tail _ (.head _)));obtain⟨n0,e0,w0⟩:=c3I uu3 h0;obtain⟨n1,e1,w1⟩:=c3I uu3 h1;obtain⟨n2,e2,w2⟩:=c4e uu9 h2;obtain rfl:c0=.int .i64 n0:=z9 e0;obtain rfl:c1=.int .i64 n1:=z9 e1;obtain rfl:c2=str n2:=z9 e2;exact⟨⟨n0,n1,n2⟩,rfl,⟨c3W w0,c3W w1⟩,qr (hw _ (k2 _ w2)) (by decide)⟩
theorem c4w{v:Value}{d:DataW H}{p:List MemPlace}{r:Reach}{base:Nat}(hv:Value.okWide prog W r base 22 v)(h:DataW.Trod enc prog W 0 (λ_=>true) true 22 v d p)(hw:∀q∈d.weights prog 22,q<=reachBytes) :
 ∃a k c l,v=.slice a k c/\Rd (a1X W) [] a k c 3 (fl K7 l)/\(∀x∈l,RwB x)/\k<=4398046511103:=by
 obtain⟨a,k,c,rfl⟩:=okWide_slice a6b hv;obtain⟨V8,hf⟩:=h;obtain⟨a',k',c',l,e,hl,hs,hp⟩:=b6l (x:=(d,p)) (Pr:=RwB) (enc':=K7) a6b b8r (by decide) C6 (λf ys y hy hk=>c6C hy λq hq=>hw q (hk q hq)) hf;have e:=z9 (show[Value.slice a k c]=[.slice a' k' c'] from e);cases e;refine⟨a,k,c,l,rfl,Rd.ofSl hs,hp,?_⟩;rcases DataW.trod_slice a6b hf with⟨e1,_⟩|⟨a',n',c',el,rs,f,_,e1,e2,_,_,_,h3,_⟩
 ·cases e1
  decide
 ·cases e1
  have hd:d=.slice (el.map (·.1)) (rs.map (·.1)):=(Prod.mk.inj e2).1;have h5:=hw ((el.length+rs.length)*32) (by
   rw[hd];unfold DataW.weights;rw[a6b];simp only[qP,c5R];exact zx ..)
  unfold reachBytes at h5;omega
end
end Go.Proofs.YtgcjpahhljmlmaaGreatDoor

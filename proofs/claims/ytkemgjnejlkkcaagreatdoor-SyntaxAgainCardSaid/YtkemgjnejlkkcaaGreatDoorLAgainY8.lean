import Derived.Test.YtkemgjnejlkkcaaGreatDoorLAgainY7
import Derived.SevenTiedAt
import Derived.Test.YtkemgjnejlkkcaaGreatDoorCards
import Derived.Test.YtkemgjnejlkkcaaGreatDoorTie
import Derived.ChangeMaps5
set_option maxRecDepth 100000
set_option maxHeartbeats 2000000
namespace Go.Proofs.YtkemgjnejlkkcaaGreatDoor
section
open Go Go.Eng Go.RowKit Go.ChangeShapes Go.WideShapes Go.ChangeAt Go.Joins
theorem Tryz.own:ownKnob Tryz.prog.godebug=none:=by kernel_rfl
theorem Tryz.laidOut:laidOutB Tryz.prog=true:=by kernel_rfl
theorem c7u:Tryz.prog.cellsOf 251=3:=by kernel_rfl
abbrev b3s : List (String × DataW Unit) := [("math/bits.deBruijn32tab", Rows.laid_math_bits_deBruijn32tab), ("math/bits.deBruijn64tab", Rows.laid_math_bits_deBruijn64tab), ("internal/strconv.uint64pow10", Rows.laid_internal_strconv_uint64pow10), ("unicode/utf8.acceptRanges", Rows.laid_unicode_utf8_acceptRanges), ("transputer/types.primitive", Rows.laid_transputer_types_primitive), ("transputer/syntax.one", Rows.laid_transputer_syntax_one), ("transputer/syntax.some", Rows.laid_transputer_syntax_some), ("transputer/syntax.all", Rows.laid_transputer_syntax_all), ("unicode/utf8.first", Rows.laid_unicode_utf8_first)]
theorem b5b {W:World} {a06:Nat} {ys:List Value} {kd sz:Int} {wd:List UInt8} {p:List MemPlace}
 (h:DataW.trod (fun _=>()) Tryz.prog W 0 (fun _=>true) false a06 251 ys=some (.agg [.lit (.int .u8 kd),.lit (.string wd),.lit (.int .i64 sz)],p)) :
 ys[0]?=some (.int .u8 kd)/\ys[1]?=some (str wd)/\ys[2]?=some (.int .i64 sz):=by
 obtain⟨f,hf⟩:=a9W b6e h;obtain⟨_,h0⟩:=hf 0 _ _ rfl rfl;obtain⟨_,h1⟩:=hf 1 _ _ rfl rfl;obtain⟨_,h2⟩:=hf 2 _ _ rfl rfl;exact⟨Eng.cell_of_cut (a8J d1c h0),Eng.cell_of_cut (c4v uu9 h1),Eng.cell_of_cut (a8J uu3 h2)⟩
theorem a5v {cs ys:List Value} {i j:Nat} {v:Value} (e:(cs.drop (i * 3)).take 3=ys) (h:ys[j]?=some v):cs[i * 3+j]?=some v:=by
 subst e;rw[List.getElem?_take] at h;split at h
 ·rwa [List.getElem?_drop] at h
 ·cases h
theorem b4L {W:World} {a06:Nat} {ys:List Value} {a b:Int} {p:List MemPlace} (h:DataW.trod (fun _=>()) Tryz.prog W 0 (fun _=>true) false a06 145 ys=some (.agg [.lit (.int .i64 a),.lit (.int .i64 b)],p)) :
 ∀ (j:Nat) (v:Value),([.int .i64 a,.int .i64 b]:List Value)[j]?=some v->ys[j]?=some v:=by
 obtain⟨f,hf⟩:=a9W Z2 h;obtain⟨_,h0⟩:=hf 0 _ _ rfl rfl;obtain⟨_,h1⟩:=hf 1 _ _ rfl rfl;have e0:=Eng.cell_of_cut (a8J uu3 h0);have e1:=Eng.cell_of_cut (a8J uu3 h1);intro j v hj;match j,hj with
 | 0,hj=>cases hj;exact e0
 | 1,hj=>cases hj;exact e1
theorem c8g {W:World} (h:laidMet Tryz.prog b3s W) (hsh:W.ShapedOpen Tryz.prog):Glob (a3T W):=by
 obtain⟨_,⟨_,_,_,_,_,_,_,_,_,_,⟨_,_,_,_,_,_,_,_,_,_,⟨_,_,_,_,_,_,_,_,_,_,⟨_,_,_,_,_,_,_,_,_,_,⟨g4,t4,cs4,f4,p4,q4,hg4,ht4,hv4,hd4,⟨g5,t5,cs5,f5,p5,q5,hg5,ht5,hv5,hd5,⟨g6,t6,cs6,f6,p6,q6,hg6,ht6,hv6,hd6,⟨g7,t7,cs7,f7,p7,q7,hg7,ht7,hv7,hd7,_,_⟩,_⟩,_⟩,_⟩,_⟩,_⟩,_⟩,_⟩,_⟩:=h;obtain rfl := Option.some.inj ((show Tryz.prog.globalNamed "transputer/types.primitive" = some 4 by kernel_rfl).symm.trans hg4);obtain rfl:=Option.some.inj ((show(Tryz.prog.globals[4]?).map (·.type)=some 252 by kernel_rfl).symm.trans ht4);obtain rfl := Option.some.inj ((show Tryz.prog.globalNamed "transputer/syntax.one" = some 1 by kernel_rfl).symm.trans hg5);obtain rfl:=Option.some.inj ((show(Tryz.prog.globals[1]?).map (·.type)=some 145 by kernel_rfl).symm.trans ht5);obtain rfl := Option.some.inj ((show Tryz.prog.globalNamed "transputer/syntax.some" = some 2 by kernel_rfl).symm.trans hg6)
 obtain rfl:=Option.some.inj ((show(Tryz.prog.globals[2]?).map (·.type)=some 145 by kernel_rfl).symm.trans ht6);obtain rfl := Option.some.inj ((show Tryz.prog.globalNamed "transputer/syntax.all" = some 0 by kernel_rfl).symm.trans hg7);obtain rfl:=Option.some.inj ((show(Tryz.prog.globals[0]?).map (·.type)=some 145 by kernel_rfl).symm.trans ht7);refine⟨(Tryz.laysM144.s1_3 W hsh).imp fun _ e=>a1x e,fun j v hj=>a1x ?_,fun j v hj=>a1x ?_,fun j v hj=>a1x ?_,fun j v hj=>a1x ?_⟩
 ·obtain⟨f,hf⟩:=b7Q a9Z hd4
  obtain⟨_,h0⟩:=hf 0 _ (by decide) rfl;obtain⟨_,h1⟩:=hf 1 _ (by decide) rfl;obtain⟨_,h2⟩:=hf 2 _ (by decide) rfl;rw[c7u] at h0 h1 h2;have a0:=b5b h0;have a1:=b5b h1;have a2:=b5b h2;rw[World.var?_cell hg4 hv4 j,<- Array.getElem?_toList];match j,hj with
  | 0,hj=>cases hj;exact a5v (i:=0) rfl a0.1
  | 1,hj=>cases hj;exact a5v (i:=0) rfl a0.2.1
  | 2,hj=>cases hj;exact a5v (i:=0) rfl a0.2.2
  | 3,hj=>cases hj;exact a5v (i:=1) rfl a1.1
  | 4,hj=>cases hj;exact a5v (i:=1) rfl a1.2.1
  | 5,hj=>cases hj;exact a5v (i:=1) rfl a1.2.2
  | 6,hj=>cases hj;exact a5v (i:=2) rfl a2.1
  | 7,hj=>cases hj;exact a5v (i:=2) rfl a2.2.1
  | 8,hj=>cases hj;exact a5v (i:=2) rfl a2.2.2
 ·rw[World.var?_cell hg5 hv5 j,<- Array.getElem?_toList]
  exact b4L hd5 j v hj
 ·rw[World.var?_cell hg6 hv6 j,<- Array.getElem?_toList]
  exact b4L hd6 j v hj
 ·rw[World.var?_cell hg7 hv7 j,<- Array.getElem?_toList]
  exact b4L hd7 j v hj
theorem d0N {W : World} (h : laidMet Tryz.prog b3s W) : Lib.TabIs Tryz.prog W "internal/strconv.uint64pow10" .u64 Lib.pow10Tab := by
 obtain⟨_,⟨_,_,_,_,_,_,_,_,_,_,⟨_,_,_,_,_,_,_,_,_,_,⟨g2,t2,cs2,f2,p2,q2,hg2,ht2,hv2,hd2,_,_⟩,_⟩,_⟩,_⟩:=h;have hg : Tryz.prog.globalNamed "internal/strconv.uint64pow10" = some 7 := by kernel_rfl
 have hty:(Tryz.prog.globals[7]?).map (·.type)=some 297:=by kernel_rfl
 obtain rfl:=Option.some.inj (hg.symm.trans hg2);obtain rfl:=Option.some.inj (hty.symm.trans ht2);unfold Lib.TabIs;rw[hv2,<- Lib.cells_of_tab (zs:=Lib.pow10Tab) c9o c9A (by kernel_rfl) (by kernel_rfl) hd2]
theorem d0E {W w : World} {h : List Res} (ht : Lib.TabIs Tryz.prog W "internal/strconv.uint64pow10" .u64 Lib.pow10Tab) (st : St (a3T W) h w) : Lib.TabIs Tryz.prog w "internal/strconv.uint64pow10" .u64 Lib.pow10Tab := by
 unfold Lib.TabIs World.var? at ht ⊢;cases hg : Tryz.prog.globalNamed "internal/strconv.uint64pow10" with
 | none=>rw[hg] at ht;cases ht
 | some g=>
  rw[hg] at ht;simp only[Option.bind_some] at ht ⊢;cases hb:W.heap[g]? with
  | none=>rw[hb] at ht;cases ht
  | some o=>rw[st.blk g o hb,<- hb];exact ht
theorem d0L {W:World} (h:laidMet Tryz.prog b3s W):Pow (a3T W):=fun _ _ st=>d0E (d0N h) st
noncomputable def d3n:DataW Unit->List Value
 | .lit (.int k z)=>[.int k z]
 | _=>[]
noncomputable def d3v:DataW Unit->List Value
 | .lit (.int k z)=>[.int k z]
 | .agg ds=>ds.flatMap d3n
 | _=>[]
noncomputable def c2l:DataW Unit->Array Value
 | .agg ds=>(ds.flatMap d3v).toArray
 | _=>#[]
noncomputable def b4Y (g:Nat) (vs:Array Value) (hp:Array Obj):Array Obj:=hp.modify g fun
 | .cells _ t fz=>.cells vs t fz
 | o=>o
noncomputable def b3p (os:Os):World:=
 { World.holding Tryz.prog os ⟨#[],#[],[]⟩ with heap:=b4Y 8 (c2l Rows.laid_math_bits_deBruijn32tab) (b4Y 9 (c2l Rows.laid_math_bits_deBruijn64tab) (b4Y 7 (c2l Rows.laid_internal_strconv_uint64pow10) (b4Y 6 (c2l Rows.laid_unicode_utf8_acceptRanges) (b4Y 5 (c2l Rows.laid_unicode_utf8_first) (b4Y 4 c9n.toArray (b4Y 1 b1C.toArray (b4Y 2 a9Q.toArray (b4Y 0 c6D.toArray (World.holding Tryz.prog os ⟨#[],#[],[]⟩).heap)))))))) }
theorem b2G (os:Os) (args:Array Value):laidMet Tryz.prog b3s ((b3p os).forCall (fun _ _=>0) ⟨#[],args,[]⟩).memory:=
 laidMet_of_run' 8 (by kernel_rfl) (by kernel_rfl)
end
section
open Go Go.Eng Go.Ty Go.Xp Go.RowKit Go.ChangeShapes Go.WideShapes Go.ChangeAt Go.Joins
variable {H:Type} {enc:TypeId × Value->H} {W:World}
end
section
open Go.Xp hiding B
open Go Go.Eng Go.Ty Go.Pc Go.RowKit Go.ChangeShapes Go.WideShapes Go.ChangeAt Go.Joins
open Go.Lx (encB D8)
variable {H:Type} {enc:TypeId × Value->H} {W:World}
abbrev Wt (x:DataW H × List MemPlace) (t:TypeId):Prop:=∀ q ∈ x.1.weights Tryz.prog t,q<=reachBytes
theorem c5G {n:Int} (w:(Lit.int .i64 n).wf=true):-9223372036854775808<=n/\n<=9223372036854775807:=by
 simp[Lit.wf] at w;exact w
end
section
open Go Go.Eng Go.Ty Go.Pc Go.RowKit Go.ChangeShapes Go.WideShapes Go.ChangeAt Go.Joins
open Go.Ly (Rw S1 G4)
open Go.Sx (RwB)
variable {H:Type} {enc:TypeId × Value->H} {W:World}
theorem b97:Tryz.prog.cellsOf 26=3:=by kernel_rfl
theorem c6u:Tryz.prog.bytesOf 26=32:=by kernel_rfl
theorem c7M {a06:Nat} {cs:List Value} {x:DataW H × List MemPlace} (hr:RdT enc Tryz.prog W true a06 26 cs x) (hw:Wt x 26):∃ r:Rw,cs=S1 r/\RwB r:=by
 obtain⟨hl,f,_,hf⟩:=b8x b7q hr;rw[b97] at hl;match cs,hl with
 | [c0,c1,c2],_=>
  obtain⟨_,_,h0,_⟩:=hf _ (.head _);obtain⟨_,_,h1,_⟩:=hf _ (.tail _ (.head _));obtain⟨_,_,h2,k2⟩:=hf _ (.tail _ (.tail _ (.head _)));obtain⟨n0,e0,w0⟩:=c3k uu3 h0;obtain⟨n1,e1,w1⟩:=c3k uu3 h1;obtain⟨n2,e2,w2⟩:=c8l uu9 h2;obtain rfl:c0=.int .i64 n0:=List.head_eq_of_cons_eq e0;obtain rfl:c1=.int .i64 n1:=List.head_eq_of_cons_eq e1;obtain rfl:c2=str n2:=List.head_eq_of_cons_eq e2;exact⟨⟨n0,n1,n2⟩,rfl,⟨c5G w0,c5G w1⟩,Nat.le_trans (hw _ (k2 _ w2)) (by decide)⟩
theorem c6L {v:Value} {d:DataW H} {p:List MemPlace} {r:Reach} {base:Nat} (hv:Value.okWide Tryz.prog W r base 22 v) (h:DataW.Trod enc Tryz.prog W 0 (fun _=>true) true 22 v d p) (hw:∀ q ∈ d.weights Tryz.prog 22,q<=reachBytes) :
 ∃ a k c l,v=.slice a k c/\Rd (a3T W) [] a k c 3 (fl S1 l)/\(∀ x ∈ l,RwB x)/\k<=4398046511103:=by
 obtain⟨a,k,c,rfl⟩:=okWide_slice a9n hv;obtain⟨a06,hf⟩:=h;obtain⟨a',k',c',l,e,hl,hs,hp⟩:=b8G (x:=(d,p)) (Pr:=RwB) (enc':=S1) a9n b97 (by decide) G4 (fun f ys y hy hk=>c7M hy fun q hq=>hw q (hk q hq)) hf;have e:=List.head_eq_of_cons_eq (show[Value.slice a k c]=[.slice a' k' c'] from e);cases e;refine⟨a,k,c,l,rfl,Rd.ofSl hs,hp,?_⟩;rcases DataW.trod_slice a9n hf with ⟨e1,_⟩ | ⟨a',n',c',el,rs,f,_,e1,e2,_,_,_,h3,_⟩
 ·cases e1
  decide
 ·cases e1
  have hd:d=.slice (el.map (·.1)) (rs.map (·.1)):=(Prod.mk.inj e2).1;have h5:=hw ((el.length+rs.length) * 32) (by
   rw[hd];unfold DataW.weights;rw[a9n];simp only[List.length_map,c6u];exact List.mem_cons_self ..)
  unfold reachBytes at h5;omega
end
end Go.Proofs.YtkemgjnejlkkcaaGreatDoor

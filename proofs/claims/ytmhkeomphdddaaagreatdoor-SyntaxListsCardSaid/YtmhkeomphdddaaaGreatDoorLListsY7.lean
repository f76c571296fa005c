import Derived.Test.YtmhkeomphdddaaaGreatDoorLListsY6
import Derived.SevenTiedAt
import Derived.Test.YtmhkeomphdddaaaGreatDoorCards
import Derived.Test.YtmhkeomphdddaaaGreatDoorTie
set_option maxRecDepth 100000
set_option maxHeartbeats 2000000
namespace Go.Proofs.YtmhkeomphdddaaaGreatDoor
section
open Go.Eng Go.Pc Go.Sx Go
open Go.Xp hiding B D5
open Go.Ly (Rw O6 G8)
open Go.Lx (encB C4)
theorem b6q (a:Addr) (n cap:Nat) (ps:List B) (sep:B) (h:List Res) (m:View) (hr:Rd m h (some a) n cap 1 (fl encB ps)) (hn:ps.length<=140737488355328) (hl:(Lib.join ps sep).length<=140737488355328) (h0:ps≠[]) :
 CT Tryz.prog 19 [.slice (some a) n cap,str sep] h m (A3 h (str (Lib.join ps sep))):=by
 refine⟨Tryz.call19,fun w st=>?_⟩;have hln:=hr.lenF C4 (by decide);have hpos:0 < ps.length:=List.length_pos_iff.2 h0;obtain⟨b,o,e0,hc0⟩:=hr.at_ w st 0 (str (ps[0])) (b1g (q:=0) C4 (List.getElem?_eq_getElem hpos) 0 _ rfl);cases e0;have hm:(ps.map fun x=>(⟨x.toArray⟩:ByteArray)).map (·.data.toList)=ps:=by
  rw[List.map_map];exact List.map_id ps
 have key:=Tryz.strings_Join b o cap (ps.map fun x=>⟨x.toArray⟩) ⟨sep.toArray⟩ w (fun j x hx=>by
  simp only[List.getElem?_map,Option.map_eq_some_iff] at hx;obtain⟨y,hy,rfl⟩:=hx;obtain⟨b',o',e1,hc⟩:=hr.at_ w st j (str y) (by have:=b1g (q:=j) C4 hy 0 _ rfl;simpa using this);cases e1;exact hc) (by
   rcases Nat.lt_or_ge b w.heap.size with h' | h'
   ·exact h'
   ·simp[World.cell?,Array.getElem?_eq_none h'] at hc0) (by simpa using hn) (by have:=hr.le;simp;omega) (by rw[hm];exact hl)
 rw[hm,List.length_map,hln] at key;refine Calls.mono key ?_;rintro e w' ⟨rfl,hb⟩;exact⟨_,m,h,rfl,Vl,st.wider hb.os hb.output hb.tape hb.block,rfl,rfl⟩
theorem a05 (s:B) (n:Nat) (h:List Res) (m:View) (hn:s.length * n<=140737488355328) (h2:n<=9223372036854775807):CT Tryz.prog 11 [str s,.int .i64 n] h m (A3 h (str (a0y s n))):=by
 rw[<- a8E];exact⟨Tryz.call11,fun w st=>Calls.mono (Tryz.strings_Repeat ⟨s.toArray⟩ n w h2 hn) (by
  rintro e w' ⟨rfl,hb⟩;exact⟨_,m,h,rfl,Vl,st.wider hb.os hb.output hb.tape hb.block,rfl,rfl⟩)⟩
theorem J3 {m:View} (hg:Glob m) (s:B) (should:Bool) (row:Int) (hL:lst s should row=true) (h:List Res):CT Tryz.prog 10 [str s,.bool should,.int .i64 row] h m (A3 h (.bool true)):=by
 unfold lst at hL;rw[Bool.and_eq_true] at hL;obtain⟨hT,hM⟩:=hL;have hT:=Z2 hT;unfold b1k at hM;refine CT.body Tryz.call10 Tryz.func10 rfl Tryz.ntmps10 Lb rfl ?_;refine kQ1 [0,1,2] ?_;refine kA1 ?_;refine xg (E1 Et) (a6m hg s hT.n hT.l hT.p _) ?_;rintro _ _ ⟨a12,c12,_,rfl,rfl,rfl⟩;refine xg (E1 Et) (a5r hg _ _ (S0 s) _ hT.t) ?_;rintro _ _ ⟨x,hh,rfl,-,-,rfl⟩;refine kA4 ?_;refine xW fun b7=>?_
 refine kQ3 [1,2,8,9] ?_;refine kQ1 [2,8,9,17] ?_;refine wc (fun c17=>?_) fun c17=>?_
 rw[if_pos c17] at hM;refine kQ3 [6] ?_;refine wT h ?_;exact⟨congrArg Value.bool hM,rfl⟩;rw[if_neg (G6 c17)] at hM;refine kQ0 [2,8,9] ?_;refine kQ8 [6] ?_;refine wT h ?_;exact⟨congrArg Value.bool hM,rfl⟩
theorem b3H:∀ n,List.replicate n (Value.string ⟨#[]⟩)=fl encB (List.replicate n ([]:B))
 | 0=>rfl
 | n+1=>by
  rw[List.replicate_succ,b3H n];rfl
theorem b3D (s:B):∀ (l:List B) (i:Nat),(fl encB l).set (i * 1) (str s)=fl encB (l.set i s)
 | [],_=>rfl
 | x::l,0=>rfl
 | x::l,i+1=>by
  have ih:=b3D s l i;rw[Nat.mul_one] at ih ⊢;show(str x::fl encB l).set (i+1) (str s)=str x::fl encB (l.set i s);rw[List.set_cons_succ,ih]
theorem a3W (s b:B):∀ n,(Q6 s b n).length<=n * (s.length+b.length)
 | 0=>Nat.zero_le _
 | 1=>by show s.length<=_;omega
 | n+2=>by
  have ih:=a3W s b (n+1);show(s++(b++Q6 s b (n+1))).length<=_;rw[List.length_append,List.length_append,show n+2=(n+1)+1 from rfl,Nat.succ_mul];omega
theorem a2z (s:B):∀ n,(a0y s n).length=n * s.length
 | 0=>by show 0=_;omega
 | n+1=>by
  show(s++a0y s n).length=_;rw[List.length_append,a2z s n,Nat.succ_mul];omega
theorem b04:∀ n,(a6T n).length=5 * n
 | 0=>rfl
 | n+1=>by
  show(a6T n++_).length=_;rw[List.length_append,b04 n];show _+5=_;omega
theorem a4N (s b:B) (n:Nat) (h:List Res) (m:View) (h1:1<=n) (h2:n<=20) (hs:s.length<=100) (hb:b.length<=100):CT Tryz.prog 9 [str s,.int .i64 n,str b] h m (A3 h (str (Q6 s b n))):=by
 have hrl:=a3W s b n;have hrb:n * (s.length+b.length)<=20 * 200:=Nat.mul_le_mul h2 (by omega);refine CT.body Tryz.call9 Tryz.func9 rfl Tryz.ntmps9 Lb rfl ?_;refine kQ1 [0,1,2] ?_;refine kA1 ?_;refine c0o (z:=.string ⟨#[]⟩) (q:=n) M1 rfl rfl Et Et rfl (by omega) (by omega) Lb fun b10=>?_
 rw[b3H n];refine kQ1 [0,2,7] ?_;refine kQ3 [0,2,7,12,13] ?_;refine B0 [0,2,7,12] rfl (fun μ F' h'=>∃ i:Nat,∃ l:List B,((i<=n/\l.length=n)/\l.take i=List.replicate i s)/\n - i=μ/\F'=[(13,.int .i64 i)]/\.row (.slice (some ⟨b10,0,none⟩) n n) 9 1 n (fl encB l)::h=h') (n - 0) [(13,.int .i64 0)] (h0:=.row (.slice (some ⟨b10,0,none⟩) n n) 9 1 n (fl encB (List.replicate n []))::h) ?_ Sb ⟨0,List.replicate n [],⟨⟨Nat.zero_le _,List.length_replicate⟩,rfl⟩,rfl,rfl,rfl⟩ ?_;exact Su;rintro _ _ _ ⟨i,l,⟨⟨hi,hll⟩,hJ⟩,rfl,rfl,rfl⟩;refine B1 rfl ?_;refine kQ1 [0,2,7,12,13,14] ?_;refine wc (fun c14=>?_) fun c14=>?_
 replace c14:=dT c14;obtain⟨y,hy⟩:=A5 (l:=l) (k:=i) (by omega);refine kQ0 [0,2,7,12,13] ?_;refine kQ2 [0,2,7,8,12,13] ?_;refine a4l (a:=some ⟨b10,0,none⟩) (by (repeat (first | exact b2R _ | apply b2Q | apply List.mem_append_right))) fun p5 q5 r5=>?_
 refine kA3 ?_;refine xG (G1 M1.und M1.size M1.posz Et Et (Rd.inRow (by (repeat (first | exact b2R _ | apply b2Q | apply List.mem_append_right))) r5 p5 q5) rfl (by omega)) ?_;refine b5K (o:=i * 1) rfl Et Et rfl rfl (by rw[r5];omega) Up ?_;rw[b3D s l i];refine kQ0 [0,2,7,12,13] ?_;refine kA2 ?_;refine WL.nil (A4 (n - (i+1)) [(13,.int .i64 (i+1))] (h'':=.row (.slice (some ⟨b10,0,none⟩) n n) 9 1 n (fl encB (l.set i s))::h) (by omega) ?_ Su Sb ⟨i+1,l.set i s,⟨⟨by omega,by rw[List.length_set];exact hll⟩,by rw[List.take_add_one,List.take_set_of_le (by omega),hJ,List.getElem?_set_self (by omega),List.replicate_succ'];rfl⟩,rfl,rfl,rfl⟩);exact Su;replace c14:=dF c14;have hJ2:l=List.replicate n s:=by
  obtain rfl:i=n:=by omega
  rw[List.take_of_length_le (by omega)] at hJ;exact hJ
 have hjn:Lib.join l b=Q6 s b n:=by rw[hJ2,a7o]
 have hl0:l≠[]:=fun q=>by rw[q] at hll;exact absurd hll.symm (by show n≠0;omega)
 refine kQ0 [2,7] ?_;refine a4l (a:=some ⟨b10,0,none⟩) (by (repeat (first | exact b2R _ | apply b2Q | apply List.mem_append_right))) fun p7 q7 r7=>?_
 refine kA2 ?_;refine xf (E2 Et Et) (b6q ⟨b10,0,none⟩ n n l b _ _ (Rd.inRow (by (repeat (first | exact b2R _ | apply b2Q | apply List.mem_append_right))) r7 p7 q7) (by omega) (by rw[hjn];omega) hl0) ?_;refine kQ1 [6] ?_;refine wT h ?_;exact⟨by rw[hjn],rfl⟩
theorem a0V (i:Nat) (h:i < 20):IntKind.u8.wrap (97+(i:Int))=((UInt8.ofNat (97+i)).toNat:Int):=by
 have q:∀ i:Fin 20,IntKind.u8.wrap (97+(i.val:Int))=((UInt8.ofNat (97+i.val)).toNat:Int):=by decide +kernel
 exact q ⟨i,h⟩
theorem b4f {m:View} (hg:Glob m) (hp:Pow m) (u:Nat) (hu:u<=255) (h:List Res):CT Tryz.prog 4 [.int .u8 u] h m Law:=by
 obtain⟨n,hn,h1,h2⟩:∃ n,1+u % 20=n/\1<=n/\n<=20:=⟨_,rfl,by omega,by omega⟩;have hm:((u:Int).tmod 20)=((u % 20:Nat):Int):=(Int.ofNat_tmod u 20).symm;have hL:=b5F h1 h2;unfold L3 at hL;simp only[Bool.and_eq_true] at hL;obtain⟨g0,g1,g2,g3,g4,g5,g6,g7,g8,g9,g10,g11,g12,g13,g14⟩:=hL;have r1:=a3W [120] [44,32] n;have r2:=a3W [120] [59,32] n;have r3:=a3W [73,78,84,32,97] [44,32] n;have r4:=a3W [73,78,84] [59,32] n;have r5:=a2z [47,46,99,32,63,32,120,47,46,46,83,75,73,80] n;have r6:=a2z [47,46,84,82,85,69,47,46,46,83,75,73,80] n;have r7:=a2z [47,46,49,47,46,46,83,75,73,80] n;have r8:=a2z [47,46,116,47,46,46,83,75,73,80] n;have r9:=a2z [47,46,80,82,79,67,69,83,83,79,82,32,55,47,46,46,83,75,73,80] n;have r10:=a2z [47,46,83,75,73,80] n;have r11:=b04 n;simp only[List.length_cons,List.length_nil] at r1 r2 r3 r4 r5 r6 r7 r8 r9 r10;refine CT.body Tryz.call4 Tryz.func4 rfl Tryz.ntmps4 Lb rfl ?_
 refine kQ1 [0] ?_;refine kA1 ?_;refine xG (PO.conv uu5 uu3 Et) ?_;refine WL.val (v':=.int .i64 u) (congrArg (Value.int .i64) (by rw[IntKind.wrap_i64];omega)) ?_;refine xG (PO.rem Et Ek (by decide)) ?_;refine WL.val (v':=.int .i64 ((u % 20:Nat):Int)) (congrArg (Value.int .i64) hm) ?_;refine xG (M2 Ek Et (by omega)) ?_;refine WL.val (v':=.int .i64 n) (congrArg (Value.int .i64) (by omega)) ?_;refine kQ1 [3] ?_;refine kA2 ?_;refine WL.val (v':=.bool (decide (n<=8))) (congrArg Value.bool (decide_eq_decide.2 (by omega))) ?_;refine kQ1 [3,4] ?_;refine kA1 ?_;refine xf (E3 Ek Et Ek) (a4N [120] [44,32] n _ _ h1 h2 (by decide) (by decide)) ?_;refine kQ1 [3,4,5] ?_;refine kA1 ?_;refine xG (G3 Et Ek (by simp;omega)) ?_;refine kA1 ?_;refine xf (E3 Et Et Ek) (J3 hg _ _ _ g0 _) ?_;refine kA1 ?_;refine zU ?_;refine kA1 ?_;refine zU ?_;refine xG (G3 Ek Et (by simp;omega)) ?_;refine zU ?_;refine kA1 ?_
 refine zU ?_;refine xf (E3 Et Et Ek) (J3 hg _ _ _ g1 _) ?_;refine kA2 ?_;refine zU ?_;refine kA1 ?_;refine zU ?_;refine xf (E3 Ek Et Ek) (a4N [120] [59,32] n _ _ h1 h2 (by decide) (by decide)) ?_;refine zU ?_;refine xG (G3 Ek Et (by simp;omega)) ?_;refine zU ?_;refine kA1 ?_;refine zU ?_;refine xf (E3 Et Et Ek) (J3 hg _ _ _ g2 _) ?_;refine kA2 ?_;refine zU ?_;refine kA1 ?_;refine zU ?_;refine xf (E3 Ek Et Ek) (a4N [120] [59,32] n _ _ h1 h2 (by decide) (by decide)) ?_;refine zU ?_;refine xG (G3 Ek Et (by simp;omega)) ?_;refine zU ?_;refine kA1 ?_;refine zU ?_;refine kA1 ?_;refine WL.val (v':=.bool (decide (n<=9))) (congrArg Value.bool (decide_eq_decide.2 (by omega))) ?_;refine zU ?_;refine xf (E3 Et Et Ek) (J3 hg _ _ _ g3 _) ?_;refine kA2 ?_;refine zU ?_;refine kA1 ?_;refine zU ?_;refine xG (G3 Ek Et (by simp;omega)) ?_;refine zU ?_;refine xG (G3 Et Ek (by simp;omega)) ?_;refine zU ?_
 refine kA1 ?_;refine zU ?_;refine xf (E3 Et Et Ek) (J3 hg _ _ _ g4 _) ?_;refine kA2 ?_;refine zU ?_;refine kA1 ?_;refine zU ?_;refine xG (G3 Ek Et (by simp;omega)) ?_;refine zU ?_;refine xG (G3 Et Ek (by simp;omega)) ?_;refine zU ?_;refine kA1 ?_;refine zU ?_;refine xf (E3 Et Et Ek) (J3 hg _ _ _ g5 _) ?_;refine kA2 ?_;refine zU ?_;refine kA1 ?_;refine zU ?_;refine xf (E3 Ek Et Ek) (a4N [73,78,84,32,97] [44,32] n _ _ h1 h2 (by decide) (by decide)) ?_;refine zU ?_;refine xG (G3 Ek Et (by simp;omega)) ?_;refine zU ?_;refine xG (G3 Et Ek (by simp;omega)) ?_;refine zU ?_;refine kA1 ?_;refine zU ?_;refine xf (E3 Et Et Ek) (J3 hg _ _ _ g6 _) ?_;refine kA2 ?_;refine zU ?_;refine kA1 ?_;refine zU ?_;refine xf (E3 Ek Et Ek) (a4N [73,78,84] [59,32] n _ _ h1 h2 (by decide) (by decide)) ?_;refine zU ?_;refine xG (G3 Ek Et (by simp;omega)) ?_;refine zU ?_;refine xG (G3 Et Ek (by simp;omega)) ?_
 refine zU ?_;refine kA1 ?_;refine zU ?_;refine xf (E3 Et Et Ek) (J3 hg _ _ _ g7 _) ?_;refine kQ2 [3,4,6] ?_;refine kQ1 [3,4,6,7] ?_;refine kQ2 [3,4,6,7,74,75] ?_;refine B0 [3,4,6,74] rfl (fun μ F' h'=>∃ i:Nat,(i<=n)/\n - i=μ/\F'=[(7,str (a6T i)),(75,.int .i64 i)]/\h=h') (n - 0) [(7,str (a6T 0)),(75,.int .i64 0)] (h0:=h) ?_ Sb ⟨0,Nat.zero_le _,rfl,rfl,rfl⟩ ?_;exact Su;rintro _ _ _ ⟨i,hi,rfl,rfl,rfl⟩;refine B1 rfl ?_;refine kQ1 [3,4,6,7,74,75,76] ?_;refine wc (fun c76=>?_) fun c76=>?_
 replace c76:=dT c76;have r12:=b04 i;refine kQ0 [3,4,6,7,74,75] ?_;refine kQ2 [3,4,6,7,8,74,75] ?_;refine kA2 ?_;refine xG (M2 Ek Et (by omega)) ?_;refine xG (PO.conv uu3 uu5 Et) ?_;refine WL.val (v':=.int .u8 ((UInt8.ofNat (97+i)).toNat:Int)) (congrArg (Value.int .u8) (a0V i (by omega))) ?_;refine xY c3H Eb fun b82=>?_
 refine xG (b0S (bs:=[UInt8.ofNat (97+i)]) b7P uu5 uu9 Et (Rd.ofPt rfl (by decide) (List.Mem.head _))) ?_;refine xG (G3 Ek Et (by simp)) ?_;refine xG (G3 Et Et (by simp;omega)) ?_;refine kQ1 [3,4,6,7,74,75] ?_;refine kA2 ?_;refine WL.nil (A4 (n - (i+1)) [(7,str (a6T (i+1))),(75,.int .i64 (i+1))] (h'':=h) (by omega) ?_ Su Sb ⟨i+1,by omega,rfl,rfl,rfl⟩);exact Su;replace c76:=dF c76;obtain rfl:i=n:=by omega
 refine kQ0 [3,4,6,7] ?_;refine kA2 ?_;refine WL.val (v':=.bool (decide (i<=16))) (congrArg Value.bool (decide_eq_decide.2 (by omega))) ?_;refine kQ1 [3,4,6,7,9] ?_;refine kA1 ?_;refine xG (G3 Ek Et (by simp;omega)) ?_;refine xG (G3 Et Ek (by simp;omega)) ?_;refine kA1 ?_;refine xf (E3 Et Et Ek) (J3 hg _ _ _ g8 _) ?_;refine kA1 ?_;refine zU ?_;refine kA1 ?_;refine zU ?_;refine xf (E2 Ek Et) (a05 _ i _ _ (by simp only[List.length_cons,List.length_nil];omega) (by omega)) ?_;refine zU ?_;refine xG (G3 Ek Et (by simp;omega)) ?_;refine zU ?_;refine kA1 ?_;refine zU ?_;refine xf (E3 Et Et Ek) (J3 hg _ _ _ g9 _) ?_;refine kA2 ?_;refine zU ?_;refine kA1 ?_;refine zU ?_;refine xf (E2 Ek Et) (a05 _ i _ _ (by simp only[List.length_cons,List.length_nil];omega) (by omega)) ?_;refine zU ?_;refine xG (G3 Ek Et (by simp;omega)) ?_;refine zU ?_;refine kA1 ?_;refine zU ?_
 refine xf (E3 Et Et Ek) (J3 hg _ _ _ g10 _) ?_;refine kA2 ?_;refine zU ?_;refine kA1 ?_;refine zU ?_;refine xf (E2 Ek Et) (a05 _ i _ _ (by simp only[List.length_cons,List.length_nil];omega) (by omega)) ?_;refine zU ?_;refine xG (G3 Ek Et (by simp;omega)) ?_;refine zU ?_;refine kA1 ?_;refine zU ?_;refine xf (E3 Et Et Ek) (J3 hg _ _ _ g11 _) ?_;refine kA2 ?_;refine zU ?_;refine kA1 ?_;refine zU ?_;refine xf (E2 Ek Et) (a05 _ i _ _ (by simp only[List.length_cons,List.length_nil];omega) (by omega)) ?_;refine zU ?_;refine xG (G3 Ek Et (by simp;omega)) ?_;refine zU ?_;refine kA1 ?_;refine zU ?_;refine xf (E3 Et Et Ek) (J3 hg _ _ _ g12 _) ?_;refine kQ2 [3,4,6,10] ?_;refine kA2 ?_;refine zU ?_;refine kA3 ?_;refine zU ?_;refine kA1 ?_;refine zU ?_;refine xf (E2 Ek Et) (a05 _ i _ _ (by simp only[List.length_cons,List.length_nil];omega) (by omega)) ?_;refine zU ?_
 refine xG (G3 Ek Et (by simp;omega)) ?_;refine zU ?_;refine kA1 ?_;refine zU ?_;refine xf (E3 Et Et Ek) (J3 hg _ _ _ g13 _) ?_;refine kA2 ?_;refine zU ?_;refine kA1 ?_;refine zU ?_;refine xf (E2 Ek Et) (a05 _ i _ _ (by simp only[List.length_cons,List.length_nil];omega) (by omega)) ?_;refine zU ?_;refine xG (G3 Ek Et (by simp;omega)) ?_;refine zU ?_;refine xf (E3 Et Ek Ek) (J3 hg _ _ _ g14 _) ?_;refine kA2 ?_;refine zU ?_;refine xf E0 (b7T hg hp _) ?_;refine kQ2 [2] ?_;refine wT h ?_;rfl
end
section
open Go Go.Eng Go.RowKit Go.ChangeShapes Go.WideShapes Go.ChangeAt Go.Joins
theorem Tryz.own:ownKnob Tryz.prog.godebug=none:=by kernel_rfl
theorem Tryz.laidOut:laidOutB Tryz.prog=true:=by kernel_rfl
theorem c0m:Tryz.prog.cellsOf 249=3:=by kernel_rfl
abbrev a8v : List (String × DataW Unit) := [("math/bits.deBruijn32tab", Rows.laid_math_bits_deBruijn32tab), ("math/bits.deBruijn64tab", Rows.laid_math_bits_deBruijn64tab), ("internal/strconv.uint64pow10", Rows.laid_internal_strconv_uint64pow10), ("unicode/utf8.acceptRanges", Rows.laid_unicode_utf8_acceptRanges), ("transputer/types.primitive", Rows.laid_transputer_types_primitive), ("transputer/syntax.one", Rows.laid_transputer_syntax_one), ("transputer/syntax.some", Rows.laid_transputer_syntax_some), ("transputer/syntax.all", Rows.laid_transputer_syntax_all), ("unicode/utf8.first", Rows.laid_unicode_utf8_first)]
theorem a9U {W:World} {a2C:Nat} {ys:List Value} {kd sz:Int} {wd:List UInt8} {p:List MemPlace}
 (h:DataW.trod (fun _=>()) Tryz.prog W 0 (fun _=>true) false a2C 249 ys=some (.agg [.lit (.int .u8 kd),.lit (.string wd),.lit (.int .i64 sz)],p)) :
 ys[0]?=some (.int .u8 kd)/\ys[1]?=some (str wd)/\ys[2]?=some (.int .i64 sz):=by
 obtain⟨f,hf⟩:=a5R b1L h;obtain⟨_,h0⟩:=hf 0 _ _ rfl rfl;obtain⟨_,h1⟩:=hf 1 _ _ rfl rfl;obtain⟨_,h2⟩:=hf 2 _ _ rfl rfl;exact⟨Eng.cell_of_cut (a5f c1w h0),Eng.cell_of_cut (b7M uu9 h1),Eng.cell_of_cut (a5f uu3 h2)⟩
theorem a2B {cs ys:List Value} {i j:Nat} {v:Value} (e:(cs.drop (i * 3)).take 3=ys) (h:ys[j]?=some v):cs[i * 3+j]?=some v:=by
 subst e;rw[List.getElem?_take] at h;split at h
 ·rwa [List.getElem?_drop] at h
 ·cases h
theorem a9j {W:World} {a2C:Nat} {ys:List Value} {a b:Int} {p:List MemPlace} (h:DataW.trod (fun _=>()) Tryz.prog W 0 (fun _=>true) false a2C 167 ys=some (.agg [.lit (.int .i64 a),.lit (.int .i64 b)],p)) :
 ∀ (j:Nat) (v:Value),([.int .i64 a,.int .i64 b]:List Value)[j]?=some v->ys[j]?=some v:=by
 obtain⟨f,hf⟩:=a5R Q9 h;obtain⟨_,h0⟩:=hf 0 _ _ rfl rfl;obtain⟨_,h1⟩:=hf 1 _ _ rfl rfl;have e0:=Eng.cell_of_cut (a5f uu3 h0);have e1:=Eng.cell_of_cut (a5f uu3 h1);intro j v hj;match j,hj with
 | 0,hj=>cases hj;exact e0
 | 1,hj=>cases hj;exact e1
theorem c0a {W:World} (h:laidMet Tryz.prog a8v W) (hsh:W.ShapedOpen Tryz.prog):Glob (a3s W):=by
 obtain⟨_,⟨_,_,_,_,_,_,_,_,_,_,⟨_,_,_,_,_,_,_,_,_,_,⟨_,_,_,_,_,_,_,_,_,_,⟨_,_,_,_,_,_,_,_,_,_,⟨g4,t4,cs4,f4,p4,q4,hg4,ht4,hv4,hd4,⟨g5,t5,cs5,f5,p5,q5,hg5,ht5,hv5,hd5,⟨g6,t6,cs6,f6,p6,q6,hg6,ht6,hv6,hd6,⟨g7,t7,cs7,f7,p7,q7,hg7,ht7,hv7,hd7,_,_⟩,_⟩,_⟩,_⟩,_⟩,_⟩,_⟩,_⟩,_⟩:=h;obtain rfl := Option.some.inj ((show Tryz.prog.globalNamed "transputer/types.primitive" = some 4 by kernel_rfl).symm.trans hg4);obtain rfl:=Option.some.inj ((show(Tryz.prog.globals[4]?).map (·.type)=some 250 by kernel_rfl).symm.trans ht4);obtain rfl := Option.some.inj ((show Tryz.prog.globalNamed "transputer/syntax.one" = some 1 by kernel_rfl).symm.trans hg5);obtain rfl:=Option.some.inj ((show(Tryz.prog.globals[1]?).map (·.type)=some 167 by kernel_rfl).symm.trans ht5);obtain rfl := Option.some.inj ((show Tryz.prog.globalNamed "transputer/syntax.some" = some 3 by kernel_rfl).symm.trans hg6)
 obtain rfl:=Option.some.inj ((show(Tryz.prog.globals[3]?).map (·.type)=some 167 by kernel_rfl).symm.trans ht6);obtain rfl := Option.some.inj ((show Tryz.prog.globalNamed "transputer/syntax.all" = some 0 by kernel_rfl).symm.trans hg7);obtain rfl:=Option.some.inj ((show(Tryz.prog.globals[0]?).map (·.type)=some 167 by kernel_rfl).symm.trans ht7);refine⟨(Tryz.laysM144.s1_3 W hsh).imp fun _ e=>a1a e,fun j v hj=>a1a ?_,fun j v hj=>a1a ?_,fun j v hj=>a1a ?_,fun j v hj=>a1a ?_⟩
 ·obtain⟨f,hf⟩:=b2o a5N hd4
  obtain⟨_,h0⟩:=hf 0 _ (by decide) rfl;obtain⟨_,h1⟩:=hf 1 _ (by decide) rfl;obtain⟨_,h2⟩:=hf 2 _ (by decide) rfl;rw[c0m] at h0 h1 h2;have a0:=a9U h0;have a1:=a9U h1;have a2:=a9U h2;rw[World.var?_cell hg4 hv4 j,<- Array.getElem?_toList];match j,hj with
  | 0,hj=>cases hj;exact a2B (i:=0) rfl a0.1
  | 1,hj=>cases hj;exact a2B (i:=0) rfl a0.2.1
  | 2,hj=>cases hj;exact a2B (i:=0) rfl a0.2.2
  | 3,hj=>cases hj;exact a2B (i:=1) rfl a1.1
  | 4,hj=>cases hj;exact a2B (i:=1) rfl a1.2.1
  | 5,hj=>cases hj;exact a2B (i:=1) rfl a1.2.2
  | 6,hj=>cases hj;exact a2B (i:=2) rfl a2.1
  | 7,hj=>cases hj;exact a2B (i:=2) rfl a2.2.1
  | 8,hj=>cases hj;exact a2B (i:=2) rfl a2.2.2
 ·rw[World.var?_cell hg5 hv5 j,<- Array.getElem?_toList]
  exact a9j hd5 j v hj
 ·rw[World.var?_cell hg6 hv6 j,<- Array.getElem?_toList]
  exact a9j hd6 j v hj
 ·rw[World.var?_cell hg7 hv7 j,<- Array.getElem?_toList]
  exact a9j hd7 j v hj
theorem c1U {W : World} (h : laidMet Tryz.prog a8v W) : Lib.TabIs Tryz.prog W "internal/strconv.uint64pow10" .u64 Lib.pow10Tab := by
 obtain⟨_,⟨_,_,_,_,_,_,_,_,_,_,⟨_,_,_,_,_,_,_,_,_,_,⟨g2,t2,cs2,f2,p2,q2,hg2,ht2,hv2,hd2,_,_⟩,_⟩,_⟩,_⟩:=h;have hg : Tryz.prog.globalNamed "internal/strconv.uint64pow10" = some 7 := by kernel_rfl
 have hty:(Tryz.prog.globals[7]?).map (·.type)=some 317:=by kernel_rfl
 obtain rfl:=Option.some.inj (hg.symm.trans hg2);obtain rfl:=Option.some.inj (hty.symm.trans ht2);unfold Lib.TabIs;rw[hv2,<- Lib.cells_of_tab (zs:=Lib.pow10Tab) c0X c0N (by kernel_rfl) (by kernel_rfl) hd2]
theorem c1z {W w : World} {h : List Res} (ht : Lib.TabIs Tryz.prog W "internal/strconv.uint64pow10" .u64 Lib.pow10Tab) (st : St (a3s W) h w) : Lib.TabIs Tryz.prog w "internal/strconv.uint64pow10" .u64 Lib.pow10Tab := by
 unfold Lib.TabIs World.var? at ht ⊢;cases hg : Tryz.prog.globalNamed "internal/strconv.uint64pow10" with
 | none=>rw[hg] at ht;cases ht
 | some g=>
  rw[hg] at ht;simp only[Option.bind_some] at ht ⊢;cases hb:W.heap[g]? with
  | none=>rw[hb] at ht;cases ht
  | some o=>rw[st.blk g o hb,<- hb];exact ht
theorem c2s {W:World} (h:laidMet Tryz.prog a8v W):Pow (a3s W):=fun _ _ st=>c1z (c1U h) st
noncomputable def c4o:DataW Unit->List Value
 | .lit (.int k z)=>[.int k z]
 | _=>[]
noncomputable def c4b:DataW Unit->List Value
 | .lit (.int k z)=>[.int k z]
 | .agg ds=>ds.flatMap c4o
 | _=>[]
noncomputable def b5Y:DataW Unit->Array Value
 | .agg ds=>(ds.flatMap c4b).toArray
 | _=>#[]
noncomputable def a9Y (g:Nat) (vs:Array Value) (hp:Array Obj):Array Obj:=hp.modify g fun
 | .cells _ t fz=>.cells vs t fz
 | o=>o
noncomputable def a8W (os:Os):World:=
 { World.holding Tryz.prog os ⟨#[],#[],[]⟩ with heap:=a9Y 8 (b5Y Rows.laid_math_bits_deBruijn32tab) (a9Y 9 (b5Y Rows.laid_math_bits_deBruijn64tab) (a9Y 7 (b5Y Rows.laid_internal_strconv_uint64pow10) (a9Y 6 (b5Y Rows.laid_unicode_utf8_acceptRanges) (a9Y 5 (b5Y Rows.laid_unicode_utf8_first) (a9Y 4 c1i.toArray (a9Y 1 a7m.toArray (a9Y 3 a5X.toArray (a9Y 0 b9u.toArray (World.holding Tryz.prog os ⟨#[],#[],[]⟩).heap)))))))) }
theorem a8a (os:Os) (args:Array Value):laidMet Tryz.prog a8v ((a8W os).forCall (fun _ _=>0) ⟨#[],args,[]⟩).memory:=
 laidMet_of_run' 8 (by kernel_rfl) (by kernel_rfl)
end
end Go.Proofs.YtmhkeomphdddaaaGreatDoor

import Derived.Test.YtkemgjnejlkkcaaGreatDoorLAgainY4
import Derived.Test.YtkemgjnejlkkcaaGreatDoorProg
import Derived.Test.YtkemgjnejlkkcaaGreatDoorShelfS
import Derived.Test.YtkemgjnejlkkcaaGreatDoorRows
set_option maxRecDepth 100000
set_option maxHeartbeats 2000000
namespace Go.Proofs.YtkemgjnejlkkcaaGreatDoor
section
set_option linter.defProp false
abbrev uu2:=Tryz.underlying2
@[reducible,instance]def i2:=Go.Eng.Ud.mk uu2
abbrev uu3:=Tryz.underlying3
@[reducible,instance]def i3:=Go.Eng.Ud.mk uu3
abbrev uu4:=Tryz.underlying4
@[reducible,instance]def i4:=Go.Eng.Ud.mk uu4
abbrev uu5:=Tryz.underlying5
@[reducible,instance]def i5:=Go.Eng.Ud.mk uu5
abbrev uu9:=Tryz.underlying9
@[reducible,instance]def i9:=Go.Eng.Ud.mk uu9
abbrev c3P:=Tryz.underlying20
@[reducible,instance]def i20:=Go.Eng.Ud.mk c3P
abbrev a5i:=Tryz.underlying21
@[reducible,instance]def i21:=Go.Eng.Ud.mk a5i
abbrev a9n:=Tryz.underlying22
@[reducible,instance]def i22:=Go.Eng.Ud.mk a9n
abbrev c7E:=Tryz.underlying23
@[reducible,instance]def i23:=Go.Eng.Ud.mk c7E
abbrev b7q:=Tryz.underlying26
@[reducible,instance]def i26:=Go.Eng.Ud.mk b7q
abbrev d3g:=Tryz.underlying29
@[reducible,instance]def i29:=Go.Eng.Ud.mk d3g
abbrev d37:=Tryz.underlying30
@[reducible,instance]def i30:=Go.Eng.Ud.mk d37
abbrev d22:=Tryz.underlying31
@[reducible,instance]def i31:=Go.Eng.Ud.mk d22
abbrev d1c:=Tryz.underlying32
@[reducible,instance]def i32:=Go.Eng.Ud.mk d1c
abbrev d1R:=Tryz.underlying33
@[reducible,instance]def i33:=Go.Eng.Ud.mk d1R
abbrev a3Z:=Tryz.underlying35
@[reducible,instance]def i35:=Go.Eng.Ud.mk a3Z
abbrev d1z:=Tryz.underlying37
@[reducible,instance]def i37:=Go.Eng.Ud.mk d1z
abbrev d3d:=Tryz.underlying38
@[reducible,instance]def i38:=Go.Eng.Ud.mk d3d
abbrev d0Z:=Tryz.underlying39
@[reducible,instance]def i39:=Go.Eng.Ud.mk d0Z
abbrev d3w:=Tryz.underlying40
@[reducible,instance]def i40:=Go.Eng.Ud.mk d3w
abbrev d3h:=Tryz.underlying41
@[reducible,instance]def i41:=Go.Eng.Ud.mk d3h
abbrev b4O:=Tryz.underlying43
@[reducible,instance]def i43:=Go.Eng.Ud.mk b4O
abbrev d3p:=Tryz.underlying44
@[reducible,instance]def i44:=Go.Eng.Ud.mk d3p
abbrev d0D:=Tryz.underlying45
@[reducible,instance]def i45:=Go.Eng.Ud.mk d0D
abbrev c2I:=Tryz.underlying47
@[reducible,instance]def i47:=Go.Eng.Ud.mk c2I
abbrev d3o:=Tryz.underlying48
@[reducible,instance]def i48:=Go.Eng.Ud.mk d3o
abbrev b2J:=Tryz.underlying50
@[reducible,instance]def i50:=Go.Eng.Ud.mk b2J
abbrev X5:=Tryz.underlying52
@[reducible,instance]def i52:=Go.Eng.Ud.mk X5
abbrev c0M:=Tryz.underlying53
@[reducible,instance]def i53:=Go.Eng.Ud.mk c0M
abbrev d24:=Tryz.underlying63
@[reducible,instance]def i63:=Go.Eng.Ud.mk d24
abbrev d1v:=Tryz.underlying68
@[reducible,instance]def i68:=Go.Eng.Ud.mk d1v
abbrev d3c:=Tryz.underlying78
@[reducible,instance]def i78:=Go.Eng.Ud.mk d3c
abbrev d3t:=Tryz.underlying82
@[reducible,instance]def i82:=Go.Eng.Ud.mk d3t
abbrev c8J:=Tryz.underlying84
@[reducible,instance]def i84:=Go.Eng.Ud.mk c8J
abbrev b4r:=Tryz.underlying86
@[reducible,instance]def i86:=Go.Eng.Ud.mk b4r
abbrev c8q:=Tryz.underlying90
@[reducible,instance]def i90:=Go.Eng.Ud.mk c8q
abbrev c7g:=Tryz.underlying97
@[reducible,instance]def i97:=Go.Eng.Ud.mk c7g
abbrev a1Y:=Tryz.underlying102
@[reducible,instance]def i102:=Go.Eng.Ud.mk a1Y
abbrev a9P:=Tryz.underlying104
@[reducible,instance]def i104:=Go.Eng.Ud.mk a9P
abbrev K5:=Tryz.underlying106
@[reducible,instance]def i106:=Go.Eng.Ud.mk K5
abbrev a5F:=Tryz.underlying116
@[reducible,instance]def i116:=Go.Eng.Ud.mk a5F
abbrev c3R:=Tryz.underlying119
@[reducible,instance]def i119:=Go.Eng.Ud.mk c3R
abbrev c9r:=Tryz.underlying122
@[reducible,instance]def i122:=Go.Eng.Ud.mk c9r
abbrev b9c:=Tryz.underlying123
@[reducible,instance]def i123:=Go.Eng.Ud.mk b9c
abbrev b6A:=Tryz.underlying125
@[reducible,instance]def i125:=Go.Eng.Ud.mk b6A
abbrev d21:=Tryz.underlying138
@[reducible,instance]def i138:=Go.Eng.Ud.mk d21
abbrev c9g:=Tryz.underlying143
@[reducible,instance]def i143:=Go.Eng.Ud.mk c9g
abbrev Z2:=Tryz.underlying145
@[reducible,instance]def i145:=Go.Eng.Ud.mk Z2
abbrev a0Q:=Tryz.underlying147
@[reducible,instance]def i147:=Go.Eng.Ud.mk a0Q
abbrev c9j:=Tryz.underlying151
@[reducible,instance]def i151:=Go.Eng.Ud.mk c9j
abbrev d1J:=Tryz.underlying184
@[reducible,instance]def i184:=Go.Eng.Ud.mk d1J
abbrev d2f:=Tryz.underlying195
@[reducible,instance]def i195:=Go.Eng.Ud.mk d2f
abbrev c9s:=Tryz.underlying200
@[reducible,instance]def i200:=Go.Eng.Ud.mk c9s
abbrev c9t:=Tryz.underlying207
@[reducible,instance]def i207:=Go.Eng.Ud.mk c9t
abbrev c2k:=Tryz.underlying249
@[reducible,instance]def i249:=Go.Eng.Ud.mk c2k
abbrev b6e:=Tryz.underlying251
@[reducible,instance]def i251:=Go.Eng.Ud.mk b6e
abbrev a9Z:=Tryz.underlying252
@[reducible,instance]def i252:=Go.Eng.Ud.mk a9Z
abbrev b3T:=Tryz.underlying255
@[reducible,instance]def i255:=Go.Eng.Ud.mk b3T
abbrev c5N:=Tryz.underlying259
@[reducible,instance]def i259:=Go.Eng.Ud.mk c5N
abbrev b6R:=Tryz.underlying262
@[reducible,instance]def i262:=Go.Eng.Ud.mk b6R
abbrev b9O:=Tryz.underlying267
@[reducible,instance]def i267:=Go.Eng.Ud.mk b9O
abbrev c4Y:=Tryz.underlying281
@[reducible,instance]def i281:=Go.Eng.Ud.mk c4Y
abbrev c3e:=Tryz.underlying287
@[reducible,instance]def i287:=Go.Eng.Ud.mk c3e
abbrev c9A:=Tryz.underlying291
@[reducible,instance]def i291:=Go.Eng.Ud.mk c9A
abbrev c9o:=Tryz.underlying297
@[reducible,instance]def i297:=Go.Eng.Ud.mk c9o
end
section
open Go.Eng Go
theorem F3:Tryz.prog.follows .mixedOrders=true:=by kernel_rfl
theorem a3D:EL Tryz.prog 22 26 3 32:=⟨_,_,rfl,rfl,rfl,rfl,rfl,rfl,by decide⟩
set_option linter.defProp false in
@[reducible,instance]def iEL22:=Go.Eng.Es.mk a3D
theorem d3r:EL Tryz.prog 23 5 1 1:=⟨_,_,rfl,rfl,rfl,rfl,rfl,rfl,by decide⟩
set_option linter.defProp false in
@[reducible,instance]def iEL23:=Go.Eng.Es.mk d3r
theorem a1Q:EL Tryz.prog 33 35 6 48:=⟨_,_,rfl,rfl,rfl,rfl,rfl,rfl,by decide⟩
set_option linter.defProp false in
@[reducible,instance]def iEL33:=Go.Eng.Es.mk a1Q
theorem d0C:EL Tryz.prog 38 86 23 240:=⟨_,_,rfl,rfl,rfl,rfl,rfl,rfl,by decide⟩
set_option linter.defProp false in
@[reducible,instance]def iEL38:=Go.Eng.Es.mk d0C
theorem a2d:EL Tryz.prog 39 52 42 504:=⟨_,_,rfl,rfl,rfl,rfl,rfl,rfl,by decide⟩
set_option linter.defProp false in
@[reducible,instance]def iEL39:=Go.Eng.Es.mk a2d
theorem d0n:EL Tryz.prog 40 3 1 8:=⟨_,_,rfl,rfl,rfl,rfl,rfl,rfl,by decide⟩
set_option linter.defProp false in
@[reducible,instance]def iEL40:=Go.Eng.Es.mk d0n
theorem S3:EL Tryz.prog 44 9 1 16:=⟨_,_,rfl,rfl,rfl,rfl,rfl,rfl,by decide⟩
set_option linter.defProp false in
@[reducible,instance]def iEL44:=Go.Eng.Es.mk S3
theorem a4u:EL Tryz.prog 45 125 2 40:=⟨_,_,rfl,rfl,rfl,rfl,rfl,rfl,by decide⟩
set_option linter.defProp false in
@[reducible,instance]def iEL45:=Go.Eng.Es.mk a4u
theorem c7v:EL Tryz.prog 48 97 6 64:=⟨_,_,rfl,rfl,rfl,rfl,rfl,rfl,by decide⟩
set_option linter.defProp false in
@[reducible,instance]def iEL48:=Go.Eng.Es.mk c7v
theorem B3:EL Tryz.prog 102 106 4 40:=⟨_,_,rfl,rfl,rfl,rfl,rfl,rfl,by decide⟩
set_option linter.defProp false in
@[reducible,instance]def iEL102:=Go.Eng.Es.mk B3
theorem b9s:EL Tryz.prog 123 32 1 1:=⟨_,_,rfl,rfl,rfl,rfl,rfl,rfl,by decide⟩
set_option linter.defProp false in
@[reducible,instance]def iEL123:=Go.Eng.Es.mk b9s
theorem O7:EL Tryz.prog 138 102 1 24:=⟨_,_,rfl,rfl,rfl,rfl,rfl,rfl,by decide⟩
set_option linter.defProp false in
@[reducible,instance]def iEL138:=Go.Eng.Es.mk O7
theorem b3n:EL Tryz.prog 195 84 1 1:=⟨_,_,rfl,rfl,rfl,rfl,rfl,rfl,by decide⟩
set_option linter.defProp false in
@[reducible,instance]def iEL195:=Go.Eng.Es.mk b3n
def c9n:List Value:=[.int .u8 1,str [73,78,84],.int .i64 4,.int .u8 2,str [66,89,84,69],.int .i64 1,.int .u8 3,str [66,79,79,76],.int .i64 1]
def b1C:List Value:=[.int .i64 1,.int .i64 1]
def a9Q:List Value:=[.int .i64 1,.int .i64 8]
def c6D:List Value:=[.int .i64 0,.int .i64 2048]
structure Glob (m:View):Prop where
 max:∃ x,m.cell ⟨3,0,none⟩=some (.int .i64 x)
 prim:∀ j v,c9n[j]?=some v->m.cell ⟨4,j,none⟩=some v
 sOne:∀ j v,b1C[j]?=some v->m.cell ⟨1,j,none⟩=some v
 sSome:∀ j v,a9Q[j]?=some v->m.cell ⟨2,j,none⟩=some v
 sAll:∀ j v,c6D[j]?=some v->m.cell ⟨0,j,none⟩=some v
theorem a2I {m:View} (hg:Glob m) (a b:List UInt8) (ha:a.length < 4294967281) (h:List Res):CT Tryz.prog 48 [str a,str b] h m (A9 h (.bool (Lib.contains a b))):=by
 obtain⟨x,hx⟩:=hg.max;exact CT.ofCalls Tryz.call48 fun w st=>Tryz.strings_Contains ⟨a.toArray⟩ ⟨b.toArray⟩ x w ha (st.cell hx)
end
section
open Go.Eng Go.Lx
theorem a7e (z:Int) (h:List Res) (m:View):CT Tryz.prog 140 [.int .u8 z] h m (A9 h (.bool (ltr z))):=by
 refine CT.body Tryz.call140 Tryz.func140 rfl Tryz.ntmps140 Lb rfl ?_;refine kQ1 [0] ?_;refine b1k ?_;refine zG (fun hc=>Y1 hc rfl rfl) ?_;refine kQ2 [2] ?_;refine wT h ?_;exact⟨rfl,rfl⟩
theorem b0W (z:Int) (h:List Res) (m:View):CT Tryz.prog 176 [.int .u8 z] h m (A9 h (.bool (dig z))):=by
 refine CT.body Tryz.call176 Tryz.func176 rfl Tryz.ntmps176 Lb rfl ?_;refine kQ1 [0] ?_;refine kQ7 [2] ?_;refine wT h ?_;exact⟨rfl,rfl⟩
theorem a9w (s:B) (h:List Res) (m:View) (hs:s.length<=9223372036854775807):CT Tryz.prog 134 [str s] h m (A9 h (.int .i64 (run s))):=by
 refine CT.body Tryz.call134 Tryz.func134 rfl Tryz.ntmps134 Lb rfl ?_;refine kQ1 [0] ?_;refine kA1 ?_;refine xG (P4 uu9 Et) ?_;refine kQ1 [0,5,6] ?_;refine C0 [0,5] rfl (fun μ F' h'=>∃ k:Nat,(k<=s.length/\run s=k+run (s.drop k))/\s.length - k=μ/\F'=[(6,.int .i64 k)]/\h=h') (s.length - 0) [(6,.int .i64 0)] (h0:=h) ?_ Sb ⟨0,⟨by omega,by simp⟩,rfl,rfl,rfl⟩ ?_;exact Su;rintro _ _ _ ⟨k,⟨hk,hJ⟩,rfl,rfl,rfl⟩;refine C2 rfl ?_;refine kQ1 [0,5,6,7] ?_;refine wc (fun c7=>?_) fun c7=>?_
 replace c7:=dT c7;obtain⟨c,hc⟩:=A5 (l:=s) (k:=k) (by omega);have hr:=c4f hc;refine kQ0 [0,5,6] ?_;refine kQ2 [0,3,5,6] ?_;refine kA2 ?_;refine xG (M5 uu9 Et Et rfl (by assumption)) ?_;refine xf (E1 Et) (a7e _ _ _) ?_;refine kA4 ?_;refine zG (fun hc=>M5 uu9 (Eg hc) (Eg hc) rfl (by assumption)) ?_;refine B4 (GU.t rfl rfl) (fun hc=>⟨Ef,(E1 (Eg hc)),b0W _ _ _⟩) Lb ?_;refine kA5 ?_;refine zG (fun hc=>M5 uu9 (Eg hc) (Eg hc) rfl (by assumption)) ?_;refine kQ2 [0,3,5,6,26] ?_;refine wc (fun c26=>?_) fun c26=>?_
 have w:wch c=false:=by unfold wch;rw[c26];rfl
 rw[w] at hr;refine kQ2 [2] ?_;refine wT h ?_;exact⟨by simp at hr;rw[hJ,hr];rfl,rfl⟩;have w:wch c=true:=by unfold wch;rw[c26];rfl
 rw[w] at hr;refine kQ0 [0,5,6] ?_;refine kA2 ?_;refine WL.nil (B1 (s.length - (k+1)) [(6,.int .i64 (k+1))] (h'':=h) (by omega) ?_ Su Sb ⟨k+1,⟨by omega,by simp at hr;omega⟩,rfl,rfl,rfl⟩);exact Su;replace c7:=dF c7;have e:k=s.length:=by omega
 subst e;have hr:run s=s.length:=by simpa [run] using hJ
 refine kQ0 [0] ?_;refine kA1 ?_;refine xG (P4 uu9 Et) ?_;refine kQ1 [2] ?_;refine wT h ?_;exact⟨by rw[hr],rfl⟩
theorem a9H (s:B) (h:List Res) (m:View) (hg:Glob m) (hs:s.length<=140737488355328):CT Tryz.prog 71 [str s] h m (A9 h (.bool (key s))):=by
 have hs':s.length<=9223372036854775807:=by omega
 refine CT.body Tryz.call71 Tryz.func71 rfl Tryz.ntmps71 Lb rfl ?_;refine kQ1 [0] ?_;refine kA1 ?_;refine xG (W9 Et Ek) ?_;refine kA2 ?_;refine B4 (GU.t rfl rfl) (fun hc=>⟨Ef,(E1 (Eg hc)),a9w _ _ _ (by assumption)⟩) Lb ?_;refine kA1 ?_;refine zG (fun hc=>P4 uu9 (Eg hc)) ?_;refine kA4 ?_;refine H9 (GU.t rfl rfl) (fun hc=>a1U Ek (Eg hc) (by simp;omega)) Lb ?_;refine H9 (GU.t rfl rfl) (fun hc=>a1U (Eg hc) Ek (by simp;omega)) Lb ?_;refine B4 (GU.t rfl rfl) (fun hc=>⟨Ef,(E2 Ek (Eg hc)),CT.argsE rfl (a2I hg a8F ([32]++s++[32]) (by decide) _)⟩) Lb ?_;refine kQ2 [2] ?_;refine wT h ?_;exact⟨rfl,rfl⟩
theorem a1Z (s:B) (h:List Res) (m:View) (hg:Glob m) (hs:s.length<=9223372036854775807):CT Tryz.prog 82 [str s] h m (A9 h (.bool (name s))):=by
 have hs':s.length<=9223372036854775807:=by omega
 cases s with
 | nil=>
  refine CT.body Tryz.call82 Tryz.func82 rfl Tryz.ntmps82 Lb rfl ?_;refine kQ1 [0] ?_;refine kA1 ?_;refine xG (W9 Et Ek) ?_;refine kA2 ?_;refine zG (fun hc=>P4 uu9 (Eg hc)) ?_;refine kA4 ?_;refine H9 (GU.t rfl rfl) (fun hc=>M5 uu9 (Eg hc) Ek (q:=0) rfl (c:=0) (by simp at hc)) Lb ?_;refine B4 (GU.t rfl rfl) (fun hc=>⟨Ef,(E1 (Eg hc)),a7e _ _ _⟩) Lb ?_;refine kA3 ?_;refine B4 (GU.t rfl rfl) (fun hc=>⟨Ef,(E1 (Eg hc)),a9w _ _ _ (by assumption)⟩) Lb ?_;refine kA1 ?_;refine zG (fun hc=>P4 uu9 (Eg hc)) ?_;refine kA4 ?_;refine B4 (GU.t rfl rfl) (fun hc=>⟨Ef,(E1 (Eg hc)),a9H _ _ _ hg (by decide)⟩) Lb ?_;refine kQ3 [2] ?_;refine wT h ?_;exact⟨rfl,rfl⟩
 | cons c s=>
  refine CT.body Tryz.call82 Tryz.func82 rfl Tryz.ntmps82 Lb rfl ?_;refine kQ1 [0] ?_;refine kA1 ?_;refine xG (W9 Et Ek) ?_;refine kA2 ?_;refine zG (fun hc=>P4 uu9 (Eg hc)) ?_;refine kA4 ?_;refine zG (fun hc=>M5 uu9 (Eg hc) Ek (q:=0) rfl (c:=c) rfl) ?_;refine B4 (GU.t rfl rfl) (fun hc=>⟨Ef,(E1 (Eg hc)),a7e _ _ _⟩) Lb ?_;refine kA3 ?_;refine B4 (GU.t rfl rfl) (fun hc=>⟨Ef,(E1 (Eg hc)),a9w _ _ _ (by assumption)⟩) Lb ?_;refine kA1 ?_;refine zG (fun hc=>P4 uu9 (Eg hc)) ?_;refine kA4 ?_;refine B4 (GU.t rfl rfl) (fun hc=>⟨Ef,(E1 (Eg hc)),a9H _ _ _ hg (by simp at hc;simp;omega)⟩) Lb ?_;refine kQ3 [2] ?_;refine wT h ?_;exact⟨rfl,rfl⟩
end
section
open Go.Eng Go.Lx
end
section
open Go.Eng Go.Xp Go
theorem b4w (k:Int) (h:List Res) (m:View):CT Tryz.prog 190 [.int .u8 k] h m (A9 h (str (N3 k))):=by
 refine CT.body Tryz.call190 Tryz.func190 rfl Tryz.ntmps190 Lb rfl ?_;refine kQ1 [0] ?_;refine kQ1 [3] ?_;refine kQ2 [3,4] ?_;refine wc (fun c4=>?_) fun c4=>?_
 replace c4:=I2 c4;refine kQ1 [2] ?_;refine wT h ?_;exact⟨by unfold N3;rw[if_pos c4],rfl⟩;replace c4:=I0 c4;refine kQ2 [3,6] ?_;refine wc (fun c6=>?_) fun c6=>?_
 replace c6:=I2 c6;refine kQ1 [2] ?_;refine wT h ?_;exact⟨by unfold N3;rw[if_neg c4,if_pos c6],rfl⟩;replace c6:=I0 c6;refine kQ2 [8] ?_;refine wc (fun c8=>?_) fun c8=>?_
 replace c8:=I2 c8;refine kQ1 [2] ?_;refine wT h ?_;exact⟨by unfold N3;rw[if_neg c4,if_neg c6,if_pos c8],rfl⟩;replace c8:=I0 c8;refine kQ0 [] ?_;refine kQ1 [2] ?_;refine wT h ?_;exact⟨by unfold N3;rw[if_neg c4,if_neg c6,if_neg c8],rfl⟩
theorem d2b {o:Int} (h:0<=o/\o<=255):IntKind.i64.wrap o=o:=by
 rw[IntKind.wrap_i64];omega
theorem b0k (o:Int) (ho:0<=o/\o<=255) (h:List Res) (m:View):CT Tryz.prog 243 [.int .u8 o] h m (A9 h (.tuple #[str (V0 o).1,.bool (V0 o).2])):=by
 have hw:=d2b ho;refine CT.body Tryz.call243 Tryz.func243 rfl Tryz.ntmps243 Lb rfl ?_;refine kQ2 [0] ?_;refine xG (a6m c3e rfl rfl rfl Eb (by exact rfl)) ?_;refine xW fun b4=>?_
 refine kQ1 [0,4] ?_;refine kA4 ?_;refine zG (fun hc=>PO.conv d22 uu3 (Eg hc)) ?_;refine kQ2 [0,4,12] ?_;refine wc (fun c12=>?_) fun c12=>?_
 rw[hw] at c12;refine kQ2 [2,3] ?_;refine w2 h ?_;exact⟨by unfold V0;rw[if_pos c12],rfl⟩;rw[hw] at c12;have ho2:o < 27:=by have:=d2o (a:=true) (b:=decide (o >= 27)) (by cases h9:(o==0) <;> simp_all);simpa using this
 have hq:o=(o.toNat:Int):=by omega
 have hv:(a7P.map str)[0+o.toNat * 1]?=some (str (a7P.getD o.toNat [])):=by
  rw[Nat.zero_add,Nat.mul_one,List.getElem?_map,List.getD_eq_getElem?_getD,List.getElem?_eq_getElem (show o.toNat < a7P.length by show o.toNat < 27;omega)];rfl
 refine kQ0 [0,4] ?_;refine kA1 ?_;refine xG (b9x (sz:=1) c3e rfl Et Et (q:=o.toNat) hq (by omega)) ?_;refine xG (E6 uu9 rfl Et (List.Mem.head _) hv) ?_;refine kQ2 [2,3] ?_;refine w2 h ?_;exact⟨by unfold V0;rw[if_neg (by rw[c12];decide)],rfl⟩
theorem c3x {m:View} (hg:Glob m) (e:Ex) (hw:Wf e) (h:List Res):CT Tryz.prog 144 [exV e] h m (A9 h (.tuple #[.int .i64 (F2 e).1,.bool (F2 e).2])):=by
 obtain⟨⟨hk,ho,ht⟩,hn,hs⟩:=hw.spec;have hs2:e.s.length<=9223372036854775807:=by omega
 refine CT.body Tryz.call144 Tryz.func144 rfl Tryz.ntmps144 Lb rfl ?_;refine j0 ?_;refine xX fun b1=>?_
 refine kQ2 [1,2] ?_;refine kA1 ?_;refine xW fun b4=>?_
 refine kQ1 [1,2,4] ?_;refine kQ4 [1,2,4] ?_;refine kP2 [1,2,4,9] ?_;refine L4 KKh [4] rfl (fun F' h'=>∃ nn:Int,∃ o':Int,∃ t':Int,∃ n':Int,∃ s':B,(F2 e=(nn,fin o' t' n' s'))/\F'=[(2,.int .i64 nn)]/\.pt b4 (.cells [.int .u8 0,.int .u8 o',.int .u8 t',.int .i32 n',str s',.slice none 0 0].toArray 35 (0,0))::h=h') ?_ ?_;refine kQ2 [1,2,4,9,10] ?_;refine wc (fun c10=>?_) fun c10=>?_
 replace c10:=I2 c10;refine kA2 ?_;refine WL.nil (E5 [(2,.int .i64 0)] (h'':=.pt b4 (.cells [.int .u8 0,.int .u8 (e.o),.int .u8 (e.t),.int .i32 0,str (e.s),.slice none 0 0].toArray 35 (0,0))::h) ?_ Su Sb ⟨0,e.o,e.t,0,e.s,by simp[F2,c10],rfl,rfl⟩);exact Su;replace c10:=I0 c10;refine kQ2 [1,2,4,9,13] ?_;refine wc (fun c13=>?_) fun c13=>?_
 replace c13:=I2 c13;refine kA2 ?_;refine xG (PO.shr Et Ek (by decide)) ?_;refine kQ1 [2,4,18] ?_;refine wc (fun c18=>?_) fun c18=>?_
 replace c18:=a2T c18;refine kQ2 [2,3] ?_;refine w2 h ?_;exact⟨by simp[F2,c13,c18],rfl⟩;replace c18:=a2U c18;refine kQ0 [2,4] ?_;refine kA2 ?_;refine WL.nil (E5 [(2,.int .i64 0)] (h'':=.pt b4 (.cells [.int .u8 0,.int .u8 (e.o),.int .u8 (e.t),.int .i32 0,str (e.s),.slice none 0 0].toArray 35 (0,0))::h) ?_ Su Sb ⟨0,e.o,e.t,0,e.s,by simp[F2,c13,c18],rfl,rfl⟩);exact Su;replace c13:=I0 c13;refine kQ2 [1,2,4,9,20] ?_;refine wc (fun c20=>?_) fun c20=>?_
 replace c20:=I2 c20;refine kA2 ?_;refine xG (PO.shr Et Ek (by decide)) ?_;refine kQ1 [2,4,25] ?_;refine wc (fun c25=>?_) fun c25=>?_
 replace c25:=a2T c25;refine kQ2 [2,3] ?_;refine w2 h ?_;exact⟨by simp[F2,c20,c25],rfl⟩;replace c25:=a2U c25;refine kQ0 [2,4] ?_;refine kA2 ?_;refine WL.nil (E5 [(2,.int .i64 0)] (h'':=.pt b4 (.cells [.int .u8 0,.int .u8 (e.o),.int .u8 (e.t),.int .i32 0,str (e.s),.slice none 0 0].toArray 35 (0,0))::h) ?_ Su Sb ⟨0,e.o,e.t,0,e.s,by simp[F2,c20,c25],rfl,rfl⟩);exact Su;replace c20:=I0 c20;refine kQ2 [1,2,4,9,27] ?_;refine wc (fun c27=>?_) fun c27=>?_
 have hk4:e.k=4:=I2 c27;refine kQ0 [1,2,4,9,27] ?_;refine wc (fun c27=>?_) fun c27=>?_
 refine kA2 ?_;refine xf (E1 Et) (a1Z _ _ _ hg (by assumption)) ?_;refine kQ1 [1,2,4,34] ?_;refine wc (fun c34=>?_) fun c34=>?_
 have hnm:Go.Lx.name e.s=false:=by simpa using c34
 refine kQ2 [2,3] ?_;refine w2 h ?_;exact⟨by first | simp[F2,hk4,hnm] | simp[F2,hk9,hnm] | simp[F2,hk5,hnm],rfl⟩;have hnm:Go.Lx.name e.s=true:=by simpa using c34
 refine kQ0 [1,2,4] ?_;refine kQ2 [1,2,4] ?_;refine kQ3 [2,4,38] ?_;refine wc (fun c38=>?_) fun c38=>?_
 replace c38:=I2 c38;refine kA1 ?_;refine WL.nil (E5 [(2,.int .i64 1)] (h'':=.pt b4 (.cells [.int .u8 0,.int .u8 (e.o),.int .u8 (e.t),.int .i32 (e.n),str ([]),.slice none 0 0].toArray 35 (0,0))::h) ?_ Su Sb ⟨1,e.o,e.t,e.n,[],by simp[F2,c38,hnm],rfl,rfl⟩);exact Su;replace c38:=I0 c38;have hq:F2 e=(0,fin e.o e.t e.n []):=by first | exact absurd hk5 c38 | simp[F2,hk4,hnm] | simp[F2,hk9,hnm]
 refine WC.skip (E5 [(2,.int .i64 0)] (h'':=.pt b4 (.cells [.int .u8 0,.int .u8 (e.o),.int .u8 (e.t),.int .i32 (e.n),str ([]),.slice none 0 0].toArray 35 (0,0))::h) ?_ Su Sb ⟨0,e.o,e.t,e.n,[],hq,rfl,rfl⟩);exact Su;exact absurd hk4 (I0 c27);have n4:e.k≠4:=I0 c27;refine kQ2 [1,2,4,9,27] ?_;refine wc (fun c27=>?_) fun c27=>?_
 have hk9:e.k=9:=I2 c27;refine kQ0 [1,2,4,9,27] ?_;refine wc (fun c27=>?_) fun c27=>?_
 refine kA2 ?_;refine xf (E1 Et) (a1Z _ _ _ hg (by assumption)) ?_;refine kQ1 [1,2,4,34] ?_;refine wc (fun c34=>?_) fun c34=>?_
 have hnm:Go.Lx.name e.s=false:=by simpa using c34
 refine kQ2 [2,3] ?_;refine w2 h ?_;exact⟨by first | simp[F2,hk4,hnm] | simp[F2,hk9,hnm] | simp[F2,hk5,hnm],rfl⟩;have hnm:Go.Lx.name e.s=true:=by simpa using c34
 refine kQ0 [1,2,4] ?_;refine kQ2 [1,2,4] ?_;refine kQ3 [2,4,38] ?_;refine wc (fun c38=>?_) fun c38=>?_
 replace c38:=I2 c38;refine kA1 ?_;refine WL.nil (E5 [(2,.int .i64 1)] (h'':=.pt b4 (.cells [.int .u8 0,.int .u8 (e.o),.int .u8 (e.t),.int .i32 (e.n),str ([]),.slice none 0 0].toArray 35 (0,0))::h) ?_ Su Sb ⟨1,e.o,e.t,e.n,[],by simp[F2,c38,hnm],rfl,rfl⟩);exact Su;replace c38:=I0 c38;have hq:F2 e=(0,fin e.o e.t e.n []):=by first | exact absurd hk5 c38 | simp[F2,hk4,hnm] | simp[F2,hk9,hnm]
 refine WC.skip (E5 [(2,.int .i64 0)] (h'':=.pt b4 (.cells [.int .u8 0,.int .u8 (e.o),.int .u8 (e.t),.int .i32 (e.n),str ([]),.slice none 0 0].toArray 35 (0,0))::h) ?_ Su Sb ⟨0,e.o,e.t,e.n,[],hq,rfl,rfl⟩);exact Su;exact absurd hk9 (I0 c27);have n9:e.k≠9:=I0 c27;refine kQ2 [1,2,4,9,27] ?_;refine wc (fun c27=>?_) fun c27=>?_
 have hk5:e.k=5:=I2 c27;refine kA2 ?_;refine xf (E1 Et) (a1Z _ _ _ hg (by assumption)) ?_;refine kQ1 [1,2,4,34] ?_;refine wc (fun c34=>?_) fun c34=>?_
 have hnm:Go.Lx.name e.s=false:=by simpa using c34
 refine kQ2 [2,3] ?_;refine w2 h ?_;exact⟨by first | simp[F2,hk4,hnm] | simp[F2,hk9,hnm] | simp[F2,hk5,hnm],rfl⟩;have hnm:Go.Lx.name e.s=true:=by simpa using c34
 refine kQ0 [1,2,4] ?_;refine kQ2 [1,2,4] ?_;refine kQ3 [2,4,38] ?_;refine wc (fun c38=>?_) fun c38=>?_
 replace c38:=I2 c38;refine kA1 ?_;refine WL.nil (E5 [(2,.int .i64 1)] (h'':=.pt b4 (.cells [.int .u8 0,.int .u8 (e.o),.int .u8 (e.t),.int .i32 (e.n),str ([]),.slice none 0 0].toArray 35 (0,0))::h) ?_ Su Sb ⟨1,e.o,e.t,e.n,[],by simp[F2,c38,hnm],rfl,rfl⟩);exact Su;replace c38:=I0 c38;have hq:F2 e=(0,fin e.o e.t e.n []):=by first | exact absurd hk5 c38 | simp[F2,hk4,hnm] | simp[F2,hk9,hnm]
 refine WC.skip (E5 [(2,.int .i64 0)] (h'':=.pt b4 (.cells [.int .u8 0,.int .u8 (e.o),.int .u8 (e.t),.int .i32 (e.n),str ([]),.slice none 0 0].toArray 35 (0,0))::h) ?_ Su Sb ⟨0,e.o,e.t,e.n,[],hq,rfl,rfl⟩);exact Su;have n5:e.k≠5:=I0 c27;refine kQ2 [1,4,9,39] ?_;refine wc (fun c39=>?_) fun c39=>?_
 replace c39:=I2 c39;refine kQ9 [4,49] ?_;refine wc (fun c49=>?_) fun c49=>?_
 refine kQ2 [2,3] ?_;refine w2 h ?_;exact⟨by simp only[F2,c39,c49];rfl,rfl⟩;refine kQ0 [4] ?_;refine kA3 ?_;refine WL.nil (E5 [(2,.int .i64 1)] (h'':=.pt b4 (.cells [.int .u8 0,.int .u8 0,.int .u8 (e.t),.int .i32 (e.n),str (e.s),.slice none 0 0].toArray 35 (0,0))::h) ?_ Su Sb ⟨1,0,e.t,e.n,e.s,by simp only[F2,c39,c49];rfl,rfl,rfl⟩);exact Su;replace c39:=I0 c39;refine kQ2 [1,4,9,51] ?_;refine wc (fun c51=>?_) fun c51=>?_
 replace c51:=I2 c51;refine kQ8 [4,60] ?_;refine wc (fun c60=>?_) fun c60=>?_
 refine kQ2 [2,3] ?_;refine w2 h ?_;exact⟨by simp only[F2,c51,c60];rfl,rfl⟩;refine kQ0 [4] ?_;refine kA3 ?_;refine WL.nil (E5 [(2,.int .i64 2)] (h'':=.pt b4 (.cells [.int .u8 0,.int .u8 0,.int .u8 (e.t),.int .i32 (e.n),str (e.s),.slice none 0 0].toArray 35 (0,0))::h) ?_ Su Sb ⟨2,0,e.t,e.n,e.s,by simp only[F2,c51,c60];rfl,rfl,rfl⟩);exact Su;replace c51:=I0 c51;refine kQ2 [1,4,62] ?_;refine wc (fun c62=>?_) fun c62=>?_
 replace c62:=I2 c62;refine kA2 ?_;refine xf (E1 Et) (b4w _ _ _) ?_;refine xG (R6 Et Ek) ?_;refine kQ0 [4,67] ?_;refine wc (fun c67=>?_) fun c67=>?_
 refine kQ2 [2,3] ?_;refine w2 h ?_;exact⟨by simp only[F2,c62,c67];rfl,rfl⟩;refine kQ0 [4] ?_;refine kA3 ?_;refine WL.nil (E5 [(2,.int .i64 1)] (h'':=.pt b4 (.cells [.int .u8 0,.int .u8 (e.o),.int .u8 0,.int .i32 (e.n),str (e.s),.slice none 0 0].toArray 35 (0,0))::h) ?_ Su Sb ⟨1,e.o,0,e.n,e.s,by simp only[F2,c62,c67];rfl,rfl,rfl⟩);exact Su;replace c62:=I0 c62;refine kQ2 [2,3] ?_;refine w2 h ?_;exact⟨by simp[F2,c10,c13,c20,n4,n9,n5,c39,c51,c62],rfl⟩;rintro _ _ ⟨nn,o',t',n',s',hJ,rfl,rfl⟩;refine C2 rfl ?_;refine jE ?_;refine dS [] (.op 0 (.op 1 (.op 2 (.op 3 (.op 4 (.op 5 (.op 6 (.op 7 (.op 8 (.op 9 (.op 10 (.op 11 (.op 12 (.op 13 (.op 14 (.op 15 (.op 16 (.op 17 (.op 18 (.op 19 .nil)))))))))))))))))))) [20] F3 ?_;refine kA3 ?_;refine yG rfl (S0 Et Ek rfl) ?_;refine kA3 ?_;refine B9 rfl rfl (GU.t rfl rfl) (fun hc=>S0 (Eg hc) Ek rfl) Lb ?_;refine kA4 ?_
 refine B9 rfl rfl (GU.t rfl rfl) (fun hc=>S0 (Eg hc) Ek rfl) Lb ?_;refine kA4 ?_;refine B9 rfl rfl (GU.t rfl rfl) (fun hc=>R6 (Eg hc) Ek) Lb ?_;refine kA1 ?_;refine yG rfl (PO.assign Et) ?_;refine SR.nil rfl rfl ?_;refine kQ1 [2,3] ?_;refine w2 h ?_;exact⟨by rw[hJ];rfl,rfl⟩
end
section
open Go.Eng Go.Xp Go
end
section
open Go.Eng Go.Xp Go
abbrev a9y (b:Nat) (v:Int):Res:=.pt b (.cells [Value.int .i64 v].toArray 3 (0,0))
abbrev d2h (bl bv:Nat):Res:=.pt bv (.cells [Value.func (.func 143) #[] #[.pointer (some ⟨bl,0,none⟩),.pointer (some ⟨bv,0,none⟩)]].toArray 200 (0,0))
theorem c3d {m:View} (hg:Glob m) (bl bv:Nat) (e:Ex):∀ (h:List Res) (deep left:Int),d2h bl bv ∈ h->TOk m h e->Wf e->(0<=deep/\deep<=33)->(0<=left/\left<=1000000) ->
 CT Tryz.prog 143 [exV e,.int .i64 deep,.pointer (some ⟨bl,0,none⟩),.pointer (some ⟨bv,0,none⟩)] (a9y bl left::h) m
  (fun v _ h'=>∃ left',v=.bool (S6 deep left e).isSome/\(∀ q,S6 deep left e=some q->left'=q)/\h'=a9y bl left'::h):=by
 refine Ex.ind (p:=fun e=>∀ (h:List Res) (deep left:Int),d2h bl bv ∈ h->TOk m h e->Wf e->(0<=deep/\deep<=33)->(0<=left/\left<=1000000) ->
  CT Tryz.prog 143 [exV e,.int .i64 deep,.pointer (some ⟨bl,0,none⟩),.pointer (some ⟨bv,0,none⟩)] (a9y bl left::h) m
   (fun v _ h'=>∃ left',v=.bool (S6 deep left e).isSome/\(∀ q,S6 deep left e=some q->left'=q)/\h'=a9y bl left'::h)) (fun e ih h deep left hv hT hW hd hl=>?_) e
 have hr:=hT.rd;have hmx:=hr.mx;have hkx:=hr.le;have he:=a3v deep left e;refine CT.body Tryz.call143 Tryz.func143 rfl Tryz.ntmps143 Lb rfl ?_;refine j0 ?_;refine xX fun b4=>?_
 refine kQ1 [1,2,3,4] ?_;refine kA1 ?_;refine xf (E1 Et) (c3x hg _ (by assumption) _) ?_;refine kQ5 [1,2,3,4,7,8] ?_;refine kA1 ?_;refine xG (a0I Et Ek (by omega)) ?_;refine kQ1 [1,2,3,4,7,8] ?_;refine kA3 ?_;refine zG (fun _=>pL uu3) ?_;refine b1k ?_;refine kQ1 [1,3,4,34] ?_;refine wc (fun c34=>?_) fun c34=>?_
 replace c34:a8h deep left e=true:=c34;rw[c34,if_pos rfl] at he;refine kQ1 [6] ?_;refine wT (a9y bl (left - 1)::h) ?_;exact⟨_,by rw[he];rfl,by (intro q hq;rw[he] at hq;cases hq),rfl⟩;replace c34:a8h deep left e=false:=c34;rw[c34,if_neg (by decide)] at he;have hb:=b0m c34;refine kQ0 [1,3,4] ?_;refine kQ4 [1,3,36,37,38] ?_;refine C0 [1,3,36,37] rfl (fun μ F' h'=>∃ k:Nat,∃ z:Int,((k<=e.l.length/\0<=z/\z<=left)/\S6 deep left e=a0T (deep+1) z (e.l.drop k))/\e.l.length - k=μ/\F'=[(38,.int .i64 k)]/\.pt b4 (.cells (exE e).toArray 35 (0,0))::a9y bl z::h=h') (e.l.length - 0) [(38,.int .i64 0)] (h0:=.pt b4 (.cells (exE e).toArray 35 (0,0))::a9y bl (left - 1)::h) ?_ Sb ⟨0,left - 1,⟨⟨by omega,by omega,by omega⟩,he⟩,rfl,rfl,rfl⟩ ?_;exact Su;rintro _ _ _ ⟨k,z,⟨⟨hk,hz0,hz1⟩,hJ⟩,rfl,rfl,rfl⟩;refine C2 rfl ?_
 have hrk:Rd m (.pt b4 (.cells (exE e).toArray 35 (0,0))::a9y bl z::h) e.a e.l.length e.c 6 (fl exE e.l):=hr.mono Vl Sb;refine kQ1 [1,3,36,37,38,39] ?_;refine wc (fun c39=>?_) fun c39=>?_
 replace c39:=dT c39;obtain⟨x,hx⟩:=A5 (l:=e.l) (k:=k) (by omega);have hxm:=List.mem_of_getElem? hx;rw[c2c hx] at hJ;refine kQ0 [1,3,36,37,38] ?_;refine kA2 ?_;refine xW fun b10=>?_
 refine kQ1 [1,3,10,36,37,38] ?_;refine xG (E6 c9s rfl Et (List.mem_cons_of_mem _ (List.mem_cons_of_mem _ (List.mem_cons_of_mem _ hv))) rfl) ?_;refine kA3 ?_;refine pD (a9y bl z) ?_;refine H5 (Ev.tmp rfl) (E2 (Ev.tmp rfl) (Ev.tmp rfl)) (ih x hxm _ (deep+1) z (List.mem_cons_of_mem _ (List.mem_cons_of_mem _ hv)) ((hT.part hxm).mono Sb) (hW.part hxm) (by omega) (by omega)) Lb ?_;rintro _ _ ⟨z46,rfl,y46,rfl⟩;refine pD (.pt b4 _) ?_;refine kQ1 [1,3,36,37,38,47] ?_;refine wc (fun c47=>?_) fun c47=>?_
 have hn:S6 (deep+1) z x=none:=by simpa using c47
 rw[hn] at hJ;refine kQ1 [6] ?_;refine wT (a9y bl z46::h) ?_;exact⟨_,by rw[hJ];rfl,by (intro q hq;rw[hJ] at hq;cases hq),rfl⟩;obtain⟨q,hq⟩:∃ q,S6 (deep+1) z x=some q:=Option.isSome_iff_exists.1 (by simpa using c47);have hq2:=y46 q hq;subst hq2;have hrg:=b3r _ _ _ _ hz0 hq;rw[hq] at hJ;refine kQ0 [1,3,36,37,38] ?_;refine kA2 ?_;refine WL.nil (B1 (e.l.length - (k+1)) [(38,.int .i64 (k+1))] (h'':=.pt b4 (.cells (exE e).toArray 35 (0,0))::a9y bl z46::h) (by omega) ?_ Su Sb ⟨k+1,z46,⟨⟨by omega,by omega,by omega⟩,hJ⟩,rfl,rfl,rfl⟩);exact Su;replace c39:=dF c39;rw[List.drop_eq_nil_of_le (by omega)] at hJ;replace hJ:S6 deep left e=some z:=hJ;refine kQ0 [] ?_;refine kQ1 [6] ?_;refine wT (a9y bl z::h) ?_;exact⟨_,by rw[hJ];rfl,by (intro q hq;rw[hJ] at hq;cases hq;rfl),rfl⟩
theorem may_ct {m:View} (hg:Glob m) (e:Ex) (h:List Res) (hT:TOk m h e) (hW:Wf e):CT Tryz.prog 85 [exV e] h m (A9 h (.bool (E9 e))):=by
 refine CT.body Tryz.call85 Tryz.func85 rfl Tryz.ntmps85 Lb rfl ?_;refine j0 ?_;refine xX fun b1=>?_
 refine kQ1 [1] ?_;refine xW fun b3=>?_
 refine kQ1 [1,3] ?_;refine xW fun b4=>?_
 refine kQ0 [1,3,4] ?_;refine xG (PO.makeFunc Evs.nil (E2 Et Et)) ?_;refine kQ1 [1,4] ?_;refine kA2 ?_;refine pD (a9y b3 256) ?_;refine H5 (Ev.tmp rfl) (E2 (Ev.tmp rfl) Ek) (c3d hg b3 b4 e _ 1 256 Me (hT.mono Sb) hW (by omega) (by omega)) Lb ?_;rintro _ _ ⟨z8,rfl,y8,rfl⟩;refine kQ1 [2] ?_;refine wT h ?_;exact⟨rfl,rfl⟩
end
section
open Go.Eng Go.Xp Go
open Go.Ty (Tok C1 C5 Z8)
theorem _root_.Go.Xp.TOk.fr {m:View} {h:List Res} {e:Ex} (q:TOk m h e) (fr:List Res):TOk m (fr++h) e:=q.mono (List.sublist_append_right fr h)
theorem a1z (s:B) (h:List Res) (m:View):CT Tryz.prog 228 [str s] h m (A9 h (Z8 (D0 s))):=by
 refine CT.body Tryz.call228 Tryz.func228 rfl Tryz.ntmps228 Lb rfl ?_;refine j0 ?_;refine xW fun b2=>?_
 refine kQ0 [0,2] ?_;refine kQ3 [2] ?_;refine WC.ret (b1K (h':=h) (.inl rfl) rfl (L9 K5 rfl rfl rfl Me rfl) Vl Sb ?_);exact⟨rfl,rfl⟩
theorem a0u {m:View} (hg:Glob m) (s:B) (hs:s.length<=140737488355328) (h:List Res):CT Tryz.prog 227 [str s] h m (A9 h (Z8 (D4 s))):=by
 refine CT.body Tryz.call227 Tryz.func227 rfl Tryz.ntmps227 Lb rfl ?_;refine j0 ?_;refine xW fun b2=>?_
 refine kQ0 [0,2] ?_;refine kA1 ?_;refine xf (E1 Et) (a9H _ _ _ hg (by assumption)) ?_;refine kQ0 [0,2,4] ?_;refine wc (fun c4=>?_) fun c4=>?_
 refine kQ3 [2] ?_;refine WC.ret (b1K (h':=h) (.inl rfl) rfl (L9 K5 rfl rfl rfl Me rfl) Vl Sb ?_);exact⟨by unfold D4;rw[c4];rfl,rfl⟩;refine kQ0 [0,2] ?_;refine kA1 ?_;refine xf (E1 Et) (a1z _ _ _) ?_;refine kQ1 [2] ?_;refine WC.ret (b1K (h':=h) (.inl rfl) rfl (L9 K5 rfl rfl rfl Me rfl) Vl Sb ?_);exact⟨by unfold D4;rw[c4];rfl,rfl⟩
theorem c5e (o:Int):(V0 o).1.length<=5:=by
 unfold V0;split
 ·decide
 ·show(a7P.getD o.toNat []).length<=5
  have:∀ s ∈ a7P,s.length<=5:=by decide
  rw[List.getD_eq_getElem?_getD];cases h:a7P[o.toNat]? with
  | none=>decide
  | some s=>exact this s (List.mem_of_getElem? h)
theorem a6b {m:View} (hg:Glob m) (o:Int) (ho:0<=o/\o<=255) (h:List Res):CT Tryz.prog 230 [.int .u8 o] h m (A9 h (Z8 (M3 o))):=by
 have hl:=c5e o;refine CT.body Tryz.call230 Tryz.func230 rfl Tryz.ntmps230 Lb rfl ?_;refine j0 ?_;refine xW fun b2=>?_
 refine kQ0 [0,2] ?_;refine kA1 ?_;refine xf (E1 Et) (b0k _ (by assumption) _ _) ?_;refine kQ5 [2,3] ?_;refine kA1 ?_;refine xf (E1 Et) (a0u hg (V0 o).1 (by omega) _) ?_;refine kQ1 [2] ?_;refine WC.ret (b1K (h':=h) (.inl rfl) rfl (L9 K5 rfl rfl rfl Me rfl) Vl Sb ?_);exact⟨rfl,rfl⟩
theorem b7d (k:Int):(N3 k).length<=4:=by
 unfold N3;repeat' split
 all_goals decide
abbrev WCT (m:View) (e:Ex):Prop:=∀ (h:List Res) (xs:List Tok) (a:Option Addr) (c:Nat),TOk m h e->Fine e->Wf e->xs.length+5 * a7T e<=1000000 ->
 CT Tryz.prog 183 [.slice a xs.length c,exV e] (.row (.slice a xs.length c) 106 4 xs.length (fl C1 xs)::h) m (fun v _ h'=>c1e C1 106 4 h (xs++B0 e) v h')
theorem b0p {m:View} (e:Ex) (hw:WCT m e) (h:List Res) (xs:List Tok) (a:Option Addr) (c:Nat) (hT:TOk m h e) (hF:Fine e) (hW:Wf e) (hl:xs.length+5 * a7T e+2<=1000000) :
 CT Tryz.prog 229 [.slice a xs.length c,exV e] (.row (.slice a xs.length c) 106 4 xs.length (fl C1 xs)::h) m (fun v _ h'=>c1e C1 106 4 h (xs++D6 e) v h'):=by
 have hwl:=a7g e hF;have hce:=a1m e;have hl1:(xs++[D0 [40]]).length=xs.length+1:=by simp
 have hl2:((xs++[D0 [40]])++B0 e).length=xs.length+1+(B0 e).length:=by simp;omega
 have hl3:(((xs++[D0 [40]])++B0 e)++[D0 [41]]).length=xs.length+2+(B0 e).length:=by simp;omega
 refine CT.body Tryz.call229 Tryz.func229 rfl Tryz.ntmps229 Lb rfl ?_;refine j0 ?_;refine xX fun b3=>?_
 refine kQ1 [0,3] ?_;refine kQ2 [0,3,6] ?_;refine kQ2 [0,3,6,7] ?_;refine wc (fun c7=>?_) fun c7=>?_
 have d6:=c7;refine kQ0 [0,3,7] ?_;refine wc (fun c7=>?_) fun c7=>?_
 have hp:D6 e=D0 [40]::(B0 e++[D0 [41]]):=by unfold D6 O3 par;rw[d6];rfl
 refine jE ?_;refine WC.take (r:=.row _ _ _ _ _) De ?_;refine H4 [1,2,3] (.op 0 (.op 4 (.op 1 (.op 2 (.op 3 .nil))))) [5,6,7,8,9] _ [_] F3 (fun _ _ _ _ _ h=>h) [] (by kernel_rfl) ?_;refine kA2 ?_;refine yf rfl (E1 Ek) (fun fr=>a1z _ _ _) ?_;refine sB rfl B3 fun b14=>?_
 refine a0q rfl rfl B3 (Ev.tmp rfl) (Ev.tmp rfl) Rr On hl1.symm (H1 (enc:=C1) _ (D0 [40])) (by omega) (by omega) (fun v'=>Up) Lb fun a15 c15=>?_
 refine SR.nil rfl rfl ?_;refine pD (.row _ _ _ _ _) ?_;refine xg (E2 Et Et) (hw _ (xs++[D0 [40]]) _ _ (hT.mono Sb) hF hW (by omega)) ?_;rintro _ _ ⟨a17,c17,k17,e17,rfl,rfl⟩;refine kR a17 fun p17 q17 r17=>?_
 subst e17;refine xf (E1 Ek) (a1z _ _ _) ?_;refine xY B3 Eb fun b19=>?_
 refine xD B3 (Ev.tmp rfl) (Ev.tmp rfl) (show _=(((xs++[D0 [40]])++B0 e)++[D0 [41]]).length by rw[hl3,hl2];omega) (H1 (enc:=C1) _ (D0 [41])) fun a20 c20=>?_
 refine kQ1 [4] ?_;refine wT (.row (.slice a20 (((xs++[D0 [40]])++B0 e)++[D0 [41]]).length c20) 106 4 (((xs++[D0 [40]])++B0 e)++[D0 [41]]).length (fl C1 (((xs++[D0 [40]])++B0 e)++[D0 [41]]))::h) ?_;rw[show xs++D6 e=((xs++[D0 [40]])++B0 e)++[D0 [41]] by rw[hp];simp];exact⟨_,_,_,rfl,rfl,rfl⟩
 cases d6.symm.trans c7;have d6:=c7;refine kQ2 [0,3,6,7] ?_;refine wc (fun c7=>?_) fun c7=>?_
 have d7:=c7;refine kQ0 [0,3,7] ?_;refine wc (fun c7=>?_) fun c7=>?_
 have hp:D6 e=D0 [40]::(B0 e++[D0 [41]]):=by unfold D6 O3 par;rw[d6,d7];rfl
 refine jE ?_;refine WC.take (r:=.row _ _ _ _ _) De ?_;refine H4 [1,2,3] (.op 0 (.op 4 (.op 1 (.op 2 (.op 3 .nil))))) [5,6,7,8,9] _ [_] F3 (fun _ _ _ _ _ h=>h) [] (by kernel_rfl) ?_;refine kA2 ?_;refine yf rfl (E1 Ek) (fun fr=>a1z _ _ _) ?_;refine sB rfl B3 fun b14=>?_
 refine a0q rfl rfl B3 (Ev.tmp rfl) (Ev.tmp rfl) Rr On hl1.symm (H1 (enc:=C1) _ (D0 [40])) (by omega) (by omega) (fun v'=>Up) Lb fun a15 c15=>?_
 refine SR.nil rfl rfl ?_;refine pD (.row _ _ _ _ _) ?_;refine xg (E2 Et Et) (hw _ (xs++[D0 [40]]) _ _ (hT.mono Sb) hF hW (by omega)) ?_;rintro _ _ ⟨a17,c17,k17,e17,rfl,rfl⟩;refine kR a17 fun p17 q17 r17=>?_
 subst e17;refine xf (E1 Ek) (a1z _ _ _) ?_;refine xY B3 Eb fun b19=>?_
 refine xD B3 (Ev.tmp rfl) (Ev.tmp rfl) (show _=(((xs++[D0 [40]])++B0 e)++[D0 [41]]).length by rw[hl3,hl2];omega) (H1 (enc:=C1) _ (D0 [41])) fun a20 c20=>?_
 refine kQ1 [4] ?_;refine wT (.row (.slice a20 (((xs++[D0 [40]])++B0 e)++[D0 [41]]).length c20) 106 4 (((xs++[D0 [40]])++B0 e)++[D0 [41]]).length (fl C1 (((xs++[D0 [40]])++B0 e)++[D0 [41]]))::h) ?_;rw[show xs++D6 e=((xs++[D0 [40]])++B0 e)++[D0 [41]] by rw[hp];simp];exact⟨_,_,_,rfl,rfl,rfl⟩
 cases d7.symm.trans c7;have d7:=c7;refine kQ2 [0,3,6,7] ?_;refine wc (fun c7=>?_) fun c7=>?_
 have d8:=c7;refine kQ0 [0,3,7] ?_;refine wc (fun c7=>?_) fun c7=>?_
 have hp:D6 e=D0 [40]::(B0 e++[D0 [41]]):=by unfold D6 O3 par;rw[d6,d7,d8];rfl
 refine jE ?_;refine WC.take (r:=.row _ _ _ _ _) De ?_;refine H4 [1,2,3] (.op 0 (.op 4 (.op 1 (.op 2 (.op 3 .nil))))) [5,6,7,8,9] _ [_] F3 (fun _ _ _ _ _ h=>h) [] (by kernel_rfl) ?_;refine kA2 ?_;refine yf rfl (E1 Ek) (fun fr=>a1z _ _ _) ?_;refine sB rfl B3 fun b14=>?_
 refine a0q rfl rfl B3 (Ev.tmp rfl) (Ev.tmp rfl) Rr On hl1.symm (H1 (enc:=C1) _ (D0 [40])) (by omega) (by omega) (fun v'=>Up) Lb fun a15 c15=>?_
 refine SR.nil rfl rfl ?_;refine pD (.row _ _ _ _ _) ?_;refine xg (E2 Et Et) (hw _ (xs++[D0 [40]]) _ _ (hT.mono Sb) hF hW (by omega)) ?_;rintro _ _ ⟨a17,c17,k17,e17,rfl,rfl⟩;refine kR a17 fun p17 q17 r17=>?_
 subst e17;refine xf (E1 Ek) (a1z _ _ _) ?_;refine xY B3 Eb fun b19=>?_
 refine xD B3 (Ev.tmp rfl) (Ev.tmp rfl) (show _=(((xs++[D0 [40]])++B0 e)++[D0 [41]]).length by rw[hl3,hl2];omega) (H1 (enc:=C1) _ (D0 [41])) fun a20 c20=>?_
 refine kQ1 [4] ?_;refine wT (.row (.slice a20 (((xs++[D0 [40]])++B0 e)++[D0 [41]]).length c20) 106 4 (((xs++[D0 [40]])++B0 e)++[D0 [41]]).length (fl C1 (((xs++[D0 [40]])++B0 e)++[D0 [41]]))::h) ?_;rw[show xs++D6 e=((xs++[D0 [40]])++B0 e)++[D0 [41]] by rw[hp];simp];exact⟨_,_,_,rfl,rfl,rfl⟩
 cases d8.symm.trans c7;have d8:=c7;refine kQ2 [0,3,7] ?_;refine wc (fun c7=>?_) fun c7=>?_
 have hp:D6 e=D0 [40]::(B0 e++[D0 [41]]):=by unfold D6 O3 par;rw[d6,d7,d8,c7];rfl
 refine jE ?_;refine WC.take (r:=.row _ _ _ _ _) De ?_;refine H4 [1,2,3] (.op 0 (.op 4 (.op 1 (.op 2 (.op 3 .nil))))) [5,6,7,8,9] _ [_] F3 (fun _ _ _ _ _ h=>h) [] (by kernel_rfl) ?_;refine kA2 ?_;refine yf rfl (E1 Ek) (fun fr=>a1z _ _ _) ?_;refine sB rfl B3 fun b14=>?_
 refine a0q rfl rfl B3 (Ev.tmp rfl) (Ev.tmp rfl) Rr On hl1.symm (H1 (enc:=C1) _ (D0 [40])) (by omega) (by omega) (fun v'=>Up) Lb fun a15 c15=>?_
 refine SR.nil rfl rfl ?_;refine pD (.row _ _ _ _ _) ?_;refine xg (E2 Et Et) (hw _ (xs++[D0 [40]]) _ _ (hT.mono Sb) hF hW (by omega)) ?_;rintro _ _ ⟨a17,c17,k17,e17,rfl,rfl⟩;refine kR a17 fun p17 q17 r17=>?_
 subst e17;refine xf (E1 Ek) (a1z _ _ _) ?_;refine xY B3 Eb fun b19=>?_
 refine xD B3 (Ev.tmp rfl) (Ev.tmp rfl) (show _=(((xs++[D0 [40]])++B0 e)++[D0 [41]]).length by rw[hl3,hl2];omega) (H1 (enc:=C1) _ (D0 [41])) fun a20 c20=>?_
 refine kQ1 [4] ?_;refine wT (.row (.slice a20 (((xs++[D0 [40]])++B0 e)++[D0 [41]]).length c20) 106 4 (((xs++[D0 [40]])++B0 e)++[D0 [41]]).length (fl C1 (((xs++[D0 [40]])++B0 e)++[D0 [41]]))::h) ?_;rw[show xs++D6 e=((xs++[D0 [40]])++B0 e)++[D0 [41]] by rw[hp];simp];exact⟨_,_,_,rfl,rfl,rfl⟩
 have hp:D6 e=B0 e:=by unfold D6 O3 par;rw[d6,d7,d8,c7];rfl
 refine kQ0 [0,3] ?_;refine kA2 ?_;refine pD (.row _ _ _ _ _) ?_;refine xg (E2 Et Et) (hw _ xs _ _ (hT.mono Sb) hF hW (by omega)) ?_;rintro _ _ ⟨a23,c23,k23,e23,rfl,rfl⟩;refine kR a23 fun p23 q23 r23=>?_
 refine kQ1 [4] ?_;refine wT (.row (.slice a23 k23 c23) 106 4 k23 (fl C1 (xs++B0 e))::h) ?_;rw[hp];exact⟨_,_,_,e23,rfl,rfl⟩
theorem c5z {m:View} (hg:Glob m) (e:Ex):WCT m e:=by
 refine Ex.ind (p:=fun e=>WCT m e) (fun e ih h xs a c hT hF hW hl=>?_) e;obtain⟨⟨hk,ho,ht⟩,hn,hs⟩:=hW.spec;have hce:=a1m e;have hr:=hT.rd;have hkind:=a2q hF;have we:=D5 e;have hl1:∀ t:Tok,xs.length+1=(xs++[t]).length:=by simp
 have hl2:∀ t u:Tok,xs.length+2=(xs++[t,u]).length:=by simp
 have hlp:=b7d e.t;refine CT.body Tryz.call183 Tryz.func183 rfl Tryz.ntmps183 Lb rfl ?_;refine j0 ?_;refine xX fun b3=>?_
 refine kQ1 [0,3] ?_;refine kA3 ?_;refine xW fun b5=>?_
 refine kQ1 [0,3,5] ?_;refine kQ2 [0,3,5,10] ?_;refine kQ2 [0,3,5,10,11] ?_;refine wc (fun c11=>?_) fun c11=>?_
 replace c11:=I2 c11;have we1:B0 e=[b0h e.n]:=by rw[we];simp[wr,c11]
 refine kA4 ?_;refine xY B3 Eb fun b17=>?_
 have hq:=hl1 (b0h e.n);refine xD B3 (Ev.tmp rfl) (Ev.tmp rfl) hq (H1 (enc:=C1) _ (b0h e.n)) fun a18 c18=>?_
 refine kQ1 [4] ?_;refine wT (.row (.slice a18 (xs++[b0h e.n]).length c18) 106 4 (xs++[b0h e.n]).length (fl C1 (xs++[b0h e.n]))::h) ?_;rw[we1];exact⟨_,_,_,rfl,rfl,rfl⟩
 replace c11:=I0 c11;refine kQ2 [0,3,5,10,19] ?_;refine wc (fun c19=>?_) fun c19=>?_
 replace c19:=I2 c19;have we1:B0 e=[a4P e.n]:=by rw[we];simp[wr,c19]
 refine kA4 ?_;refine xY B3 Eb fun b25=>?_
 have hq:=hl1 (a4P e.n);refine xD B3 (Ev.tmp rfl) (Ev.tmp rfl) hq (H1 (enc:=C1) _ (a4P e.n)) fun a26 c26=>?_
 refine kQ1 [4] ?_;refine wT (.row (.slice a26 (xs++[a4P e.n]).length c26) 106 4 (xs++[a4P e.n]).length (fl C1 (xs++[a4P e.n]))::h) ?_;rw[we1];exact⟨_,_,_,rfl,rfl,rfl⟩
 replace c19:=I0 c19;refine kQ2 [0,3,5,10,27] ?_;refine wc (fun c27=>?_) fun c27=>?_
 replace c27:=I2 c27;refine kQ3 [0,31] ?_;refine wc (fun c31=>?_) fun c31=>?_
 replace c31:=I2 c31;have we1:B0 e=[D4 [70,65,76,83,69]]:=by rw[we];simp[wr,c27,c31]
 refine kA1 ?_;refine xf (E1 Ek) (a0u hg _ (by decide) _) ?_;refine xY B3 Eb fun b34=>?_
 have hq:=hl1 (D4 [70,65,76,83,69]);refine xD B3 (Ev.tmp rfl) (Ev.tmp rfl) hq (H1 (enc:=C1) _ (D4 [70,65,76,83,69])) fun a35 c35=>?_
 refine kQ1 [4] ?_;refine wT (.row (.slice a35 (xs++[D4 [70,65,76,83,69]]).length c35) 106 4 (xs++[D4 [70,65,76,83,69]]).length (fl C1 (xs++[D4 [70,65,76,83,69]]))::h) ?_;rw[we1];exact⟨_,_,_,rfl,rfl,rfl⟩
 replace c31:=I0 c31;have we1:B0 e=[D4 [84,82,85,69]]:=by rw[we];simp[wr,c27,c31]
 refine kQ0 [0] ?_;refine kA1 ?_;refine xf (E1 Ek) (a0u hg _ (by decide) _) ?_;refine xY B3 Eb fun b38=>?_
 have hq:=hl1 (D4 [84,82,85,69]);refine xD B3 (Ev.tmp rfl) (Ev.tmp rfl) hq (H1 (enc:=C1) _ (D4 [84,82,85,69])) fun a39 c39=>?_
 refine kQ1 [4] ?_;refine wT (.row (.slice a39 (xs++[D4 [84,82,85,69]]).length c39) 106 4 (xs++[D4 [84,82,85,69]]).length (fl C1 (xs++[D4 [84,82,85,69]]))::h) ?_;rw[we1];exact⟨_,_,_,rfl,rfl,rfl⟩
 replace c27:=I0 c27;refine kQ2 [0,3,5,10,40] ?_;refine wc (fun c40=>?_) fun c40=>?_
 replace c40:=I2 c40;have we1:B0 e=[D3 e.s]:=by rw[we];simp[wr,c40]
 refine kA2 ?_;refine xY B3 Eb fun b44=>?_
 have hq:=hl1 (D3 e.s);refine xD B3 (Ev.tmp rfl) (Ev.tmp rfl) hq (H1 (enc:=C1) _ (D3 e.s)) fun a45 c45=>?_
 refine kQ1 [4] ?_;refine wT (.row (.slice a45 (xs++[D3 e.s]).length c45) 106 4 (xs++[D3 e.s]).length (fl C1 (xs++[D3 e.s]))::h) ?_;rw[we1];exact⟨_,_,_,rfl,rfl,rfl⟩
 replace c40:=I0 c40;refine kQ2 [0,3,5,10,46] ?_;refine wc (fun c46=>?_) fun c46=>?_
 replace c46:=I2 c46;have we1:B0 e=[D4 [83,73,90,69],D3 e.s]:=by rw[we];simp[wr,c46]
 refine jE ?_;refine WC.take (r:=.row _ _ _ _ _) De ?_;refine H4 [1] (.op 0 (.op 2 (.op 1 .nil))) [3,4,5] _ [_] F3 (fun _ _ _ _ _ h=>h) [0] (by kernel_rfl) ?_;refine kA2 ?_;refine yf rfl (E1 Ek) (fun fr=>a0u hg _ (by decide) _) ?_;refine SR.nil rfl rfl ?_;refine xY B3 Eb fun b51=>?_
 have hq:=hl2 (D4 [83,73,90,69]) (D3 e.s);refine xD B3 (Ev.tmp rfl) (Ev.tmp rfl) hq (a6x (enc:=C1) xs [D4 [83,73,90,69],D3 e.s]).symm fun a52 c52=>?_
 refine kQ1 [4] ?_;refine wT (.row (.slice a52 (xs++[D4 [83,73,90,69],D3 e.s]).length c52) 106 4 (xs++[D4 [83,73,90,69],D3 e.s]).length (fl C1 (xs++[D4 [83,73,90,69],D3 e.s]))::h) ?_;rw[we1];exact⟨_,_,_,rfl,rfl,rfl⟩
 replace c46:=I0 c46;refine kQ2 [0,3,5,10,53] ?_;refine wc (fun c53=>?_) fun c53=>?_
 replace c53:=I2 c53;obtain⟨x,hx⟩:=X4 hF (.inl c53);have hx0:e.l[0]?=some x:=by rw[hx];rfl
 have hxl:e.l.length=1:=by rw[hx];rfl
 have hxm:x ∈ e.l:=by rw[hx];exact List.Mem.head _
 have hcx:a5O e.l=a7T x:=by rw[hx];simp[a5O]
 have we1:xs++B0 e=((xs++[D3 e.s,D0 [91]])++B0 x)++[D0 [93]]:=by rw[we,hx];simp[wr,c53,R8]
 have hwx:=a7g x (hF.part hxm);have hl3:((xs++[D3 e.s,D0 [91]])++B0 x).length=xs.length+2+(B0 x).length:=by simp;omega
 have hl4:(((xs++[D3 e.s,D0 [91]])++B0 x)++[D0 [93]]).length=xs.length+3+(B0 x).length:=by simp;omega
 have hl5:=hl2 (D3 e.s) (D0 [91]);refine jE ?_;refine WC.take (r:=.row _ _ _ _ _) De ?_;refine H4 [2,3,4] (.op 0 (.op 1 (.op 5 (.op 6 (.op 7 (.op 8 (.op 2 (.op 3 (.op 4 .nil))))))))) [9,10,11,12,13] _ [_] F3 (fun _ _ _ _ _ h=>h) [] (by kernel_rfl) ?_;refine kA4 ?_;refine yG rfl (H8 a1Q.und a1Q.size a1Q.posz (Ev.tmp rfl) Ek Rr rfl (q:=0) (by omega)) ?_;refine kA1 ?_;refine yf rfl (E1 Ek) (fun fr=>a1z _ _ _) ?_;refine sB rfl B3 fun b58=>?_
 refine a0q rfl rfl B3 (Ev.tmp rfl) (Ev.tmp rfl) Rr On hl5 (a6x (enc:=C1) xs [D3 e.s,D0 [91]]).symm (by omega) (by omega) (fun v'=>Up) Lb fun a59 c59=>?_
 refine SR.nil rfl rfl ?_;refine pD (.row _ _ _ _ _) ?_;refine xg (E2 Et Et) (ih x hxm _ (xs++[D3 e.s,D0 [91]]) _ _ ((hT.part hxm).mono Sb) (hF.part hxm) (hW.part hxm) (by omega)) ?_;rintro _ _ ⟨a64,c64,k64,e64,rfl,rfl⟩;refine kR a64 fun p64 q64 r64=>?_
 subst e64;refine xf (E1 Ek) (a1z _ _ _) ?_;refine xY B3 Eb fun b66=>?_
 refine xD B3 (Ev.tmp rfl) (Ev.tmp rfl) (show _=(((xs++[D3 e.s,D0 [91]])++B0 x)++[D0 [93]]).length by rw[hl4,hl3];omega) (H1 (enc:=C1) _ (D0 [93])) fun a67 c67=>?_
 refine kQ1 [4] ?_;refine wT (.row (.slice a67 (((xs++[D3 e.s,D0 [91]])++B0 x)++[D0 [93]]).length c67) 106 4 (((xs++[D3 e.s,D0 [91]])++B0 x)++[D0 [93]]).length (fl C1 (((xs++[D3 e.s,D0 [91]])++B0 x)++[D0 [93]]))::h) ?_;rw[we1];exact⟨_,_,_,rfl,rfl,rfl⟩
 replace c53:=I0 c53;refine kQ2 [0,3,10,68] ?_;refine wc (fun c68=>?_) fun c68=>?_
 replace c68:=I2 c68;obtain⟨x,hx⟩:=X4 hF (.inr (.inl c68));have hx0:e.l[0]?=some x:=by rw[hx];rfl
 have hxl:e.l.length=1:=by rw[hx];rfl
 have hxm:x ∈ e.l:=by rw[hx];exact List.Mem.head _
 have hcx:a5O e.l=a7T x:=by rw[hx];simp[a5O]
 have we1:xs++B0 e=(xs++[M3 e.o])++D6 x:=by rw[we,hx];simp[wr,c68,R8,D6]
 have hl3:=hl1 (M3 e.o);refine jE ?_;refine WC.take (r:=.row _ _ _ _ _) De ?_;refine H4 [3,4,5] (.op 0 (.op 1 (.op 2 (.op 6 (.op 7 (.op 8 (.op 9 (.op 3 (.op 4 (.op 5 .nil)))))))))) [10,11] _ [_] F3 (fun _ _ _ _ _ h=>h) [] (by kernel_rfl) ?_;refine kA5 ?_;refine yG rfl (H8 a1Q.und a1Q.size a1Q.posz (Ev.tmp rfl) Ek Rr rfl (q:=0) (by omega)) ?_;refine kA1 ?_;refine yf rfl (E1 Et) (fun fr=>a6b hg _ (by assumption) _) ?_;refine sB rfl B3 fun b74=>?_
 refine a0q rfl rfl B3 (Ev.tmp rfl) (Ev.tmp rfl) Rr On hl3 (H1 (enc:=C1) _ (M3 e.o)) (by omega) (by omega) (fun v'=>Up) Lb fun a75 c75=>?_
 refine SR.nil rfl rfl ?_;refine pD (.row _ _ _ _ _) ?_;refine xg (E2 Et Et) (b0p x (ih x hxm) _ (xs++[M3 e.o]) _ _ ((hT.part hxm).mono Sb) (hF.part hxm) (hW.part hxm) (by omega)) ?_;rintro _ _ ⟨a80,c80,k80,e80,rfl,rfl⟩;refine kR a80 fun p80 q80 r80=>?_
 subst e80;refine kQ1 [4] ?_;refine wT (.row (.slice a80 ((xs++[M3 e.o])++D6 x).length c80) 106 4 ((xs++[M3 e.o])++D6 x).length (fl C1 ((xs++[M3 e.o])++D6 x))::h) ?_;rw[we1];exact⟨_,_,_,rfl,rfl,rfl⟩
 replace c68:=I0 c68;refine kQ2 [0,3,81] ?_;refine wc (fun c81=>?_) fun c81=>?_
 replace c81:=I2 c81;obtain⟨x,hx⟩:=X4 hF (.inr (.inr c81));have hx0:e.l[0]?=some x:=by rw[hx];rfl
 have hxl:e.l.length=1:=by rw[hx];rfl
 have hxm:x ∈ e.l:=by rw[hx];exact List.Mem.head _
 have hcx:a5O e.l=a7T x:=by rw[hx];simp[a5O]
 have we1:xs++B0 e=(xs++[D4 (N3 e.t)])++D6 x:=by rw[we,hx];simp[wr,c81,R8,D6]
 have hl3:=hl1 (D4 (N3 e.t));refine jE ?_;refine WC.take (r:=.row _ _ _ _ _) De ?_;refine H4 [3,4,5,6] (.op 0 (.op 1 (.op 2 (.op 7 (.op 8 (.op 9 (.op 10 (.op 3 (.op 4 (.op 5 (.op 6 .nil))))))))))) [11,12] _ [_] F3 (fun _ _ _ _ _ h=>h) [] (by kernel_rfl) ?_;refine kA5 ?_;refine yG rfl (H8 a1Q.und a1Q.size a1Q.posz (Ev.tmp rfl) Ek Rr rfl (q:=0) (by omega)) ?_;refine kA1 ?_;refine yf rfl (E1 Et) (fun fr=>b4w _ _ _) ?_;refine yf rfl (E1 Et) (fun fr=>a0u hg (N3 e.t) (by omega) _) ?_;refine sB rfl B3 fun b88=>?_
 refine a0q rfl rfl B3 (Ev.tmp rfl) (Ev.tmp rfl) Rr On hl3 (H1 (enc:=C1) _ (D4 (N3 e.t))) (by omega) (by omega) (fun v'=>Up) Lb fun a89 c89=>?_
 refine SR.nil rfl rfl ?_;refine pD (.row _ _ _ _ _) ?_;refine xg (E2 Et Et) (b0p x (ih x hxm) _ (xs++[D4 (N3 e.t)]) _ _ ((hT.part hxm).mono Sb) (hF.part hxm) (hW.part hxm) (by omega)) ?_;rintro _ _ ⟨a94,c94,k94,e94,rfl,rfl⟩;refine kR a94 fun p94 q94 r94=>?_
 subst e94;refine kQ1 [4] ?_;refine wT (.row (.slice a94 ((xs++[D4 (N3 e.t)])++D6 x).length c94) 106 4 ((xs++[D4 (N3 e.t)])++D6 x).length (fl C1 ((xs++[D4 (N3 e.t)])++D6 x))::h) ?_;rw[we1];exact⟨_,_,_,rfl,rfl,rfl⟩
 replace c81:=I0 c81;have hk7:e.k=7:=by
  rcases hkind with h | h | h | h | h | h | h | h | h <;> first | exact h | (exfalso;simp_all;done)
 obtain⟨x,y,hx⟩:=a6M hF hk7;have hx0:e.l[0]?=some x:=by rw[hx];rfl
 have hy0:e.l[1]?=some y:=by rw[hx];rfl
 have hxl:e.l.length=2:=by rw[hx];rfl
 have hxm:x ∈ e.l:=by rw[hx];exact List.Mem.head _
 have hym:y ∈ e.l:=by rw[hx];exact List.Mem.tail _ (List.Mem.head _)
 have hcx:a5O e.l=a7T x+a7T y:=by rw[hx];simp[a5O]
 have we1:xs++B0 e=((xs++D6 x)++[M3 e.o])++D6 y:=by rw[we,hx];simp[wr,hk7,R8,D6]
 have hwx:=a7g x (hF.part hxm);have hox:=a5c (par x.k,B0 x);have hl3:(xs++D6 x).length+1=((xs++D6 x)++[M3 e.o]).length:=(@List.length_append _ (xs++D6 x) [M3 e.o]).symm;have hl4:(xs++D6 x).length<=xs.length+5 * a7T x:=by
  rw[List.length_append];have:(D6 x).length<=(B0 x).length+2:=hox;have:=a1m x;omega
 have hcy:=a1m y;have hcx2:=a1m x;refine WC.skip (kp [0,3] ?_);refine jE ?_;refine WC.take (r:=.row _ _ _ _ _) De ?_;refine H4 [5,8,9,10] (.op 0 (.op 1 (.op 2 (.op 3 (.op 4 (.op 6 (.op 7 (.op 11 (.op 12 (.op 13 (.op 14 (.op 5 (.op 8 (.op 9 (.op 10 .nil))))))))))))))) [15,16] _ [_] F3 (fun _ _ _ _ _ h=>h) [] (by kernel_rfl) ?_;refine kA3 ?_;refine yG rfl (H8 a1Q.und a1Q.size a1Q.posz (Ev.tmp rfl) Ek Rr rfl (q:=0) (by omega)) ?_;refine kA5 ?_;refine yG rfl (H8 a1Q.und a1Q.size a1Q.posz (Ev.tmp rfl) Ek Rr rfl (q:=1) (by omega)) ?_;refine kA1 ?_;refine c4c rfl rfl Ef (E2 Et Et) De (fun fr=>b0p x (ih x hxm) _ xs _ _ (TOk.fr ((hT.part hxm).mono Sb) fr) (hF.part hxm) (hW.part hxm) (by omega)) Lb fun a100 c100=>?_
 refine yf rfl (E1 Et) (fun fr=>a6b hg _ (by assumption) _) ?_;refine sB rfl B3 fun b104=>?_
 refine a0q rfl rfl B3 (Ev.tmp rfl) (Ev.tmp rfl) Rr On hl3 (H1 (enc:=C1) _ (M3 e.o)) (by omega) (by omega) (fun v'=>Up) Lb fun a105 c105=>?_
 refine SR.nil rfl rfl ?_;refine pD (.row _ _ _ _ _) ?_;refine xg (E2 Et Et) (b0p y (ih y hym) _ ((xs++D6 x)++[M3 e.o]) _ _ ((hT.part hym).mono Sb) (hF.part hym) (hW.part hym) (by omega)) ?_;rintro _ _ ⟨a110,c110,k110,e110,rfl,rfl⟩;refine kR a110 fun p110 q110 r110=>?_
 subst e110;refine kQ1 [4] ?_;refine wT (.row (.slice a110 (((xs++D6 x)++[M3 e.o])++D6 y).length c110) 106 4 (((xs++D6 x)++[M3 e.o])++D6 y).length (fl C1 (((xs++D6 x)++[M3 e.o])++D6 y))::h) ?_;rw[we1];exact⟨_,_,_,rfl,rfl,rfl⟩
theorem tokens_ct {m:View} (hg:Glob m) (e:Ex) (h:List Res) (hT:TOk m h e) (hW:Wf e):CT Tryz.prog 129 [exV e] h m
 (fun v _ h'=>(E9 e=true/\∃ a c,v=.tuple #[.slice a (B0 e).length c,.int .i64 0]/\h'=.row (.slice a (B0 e).length c) 106 4 (B0 e).length (fl C1 (B0 e))::h)\/(E9 e=false/\v=.tuple #[.slice none 0 0,.int .i64 2]/\h'=h)):=by
 refine CT.body Tryz.call129 Tryz.func129 rfl Tryz.ntmps129 Lb rfl ?_;refine j0 ?_;refine xX fun b1=>?_
 refine kQ2 [1] ?_;refine kA1 ?_;refine xf (E1 Et) (may_ct hg e _ (hT.mono Sb) hW) ?_;refine kQ1 [1,6] ?_;refine wc (fun c6=>?_) fun c6=>?_
 have d6:E9 e=false:=by simpa using c6
 refine kQ2 [2,3] ?_;refine w2 h ?_;exact .inr ⟨d6,rfl,rfl⟩;have d6:E9 e=true:=by simpa using c6
 obtain⟨hF,hc⟩:=a2C d6;refine kQ0 [1] ?_;refine kA1 ?_;refine WL.addNil 106 4 ?_;refine xg (E2 Ek Et) (c5z hg e _ [] none 0 (hT.mono Sb) hF hW (by simp;omega)) ?_;rintro _ _ ⟨a8,c8,k8,e8,rfl,rfl⟩;refine kR a8 fun p8 q8 r8=>?_
 subst e8;refine kQ2 [2,3] ?_;refine w2 (.row (.slice a8 (B0 e).length c8) 106 4 (B0 e).length (fl C1 (B0 e))::h) ?_;exact .inl ⟨d6,_,_,rfl,rfl⟩
end
section
open Go.Eng Go.Lx Go.Ty
theorem c6x {s:B} (h1:((s.length:Int)==1)=false) (h2:((s.length:Int)==2)=false):sym s=false:=by
 match s with
 | []=>rfl
 | [a]=>simp at h1
 | [a,b]=>simp at h2
 | a::b::c::s=>rfl
theorem c7d {s:B} (h:((s.length:Int)==1)=true):∃ a,s=[a]:=by
 match s with
 | []=>simp at h
 | [a]=>exact⟨a,rfl⟩
 | a::b::s=>simp at h;omega
theorem c8H {s:B} (h:((s.length:Int)==2)=true):∃ a b,s=[a,b]:=by
 match s with
 | []=>simp at h
 | [a]=>simp at h
 | [a,b]=>exact⟨a,b,rfl⟩
 | a::b::c::s=>simp at h;omega
theorem b5W (s:B) (h:List Res) (m:View) (hg:Glob m):CT Tryz.prog 184 [str s] h m (A9 h (.bool (sym s))):=by
 refine CT.body Tryz.call184 Tryz.func184 rfl Tryz.ntmps184 Lb rfl ?_;refine kQ1 [0] ?_;refine kA1 ?_;refine xG (P4 uu9 Et) ?_;refine kQ0 [0,4] ?_;refine kQ2 [0,4,5] ?_;refine wc (fun c5=>?_) fun c5=>?_
 obtain⟨a,rfl⟩:=c7d c5;refine kA1 ?_;refine xf (E2 Ek Et) (CT.argsE rfl (a2I hg b5E [a] (by decide) _)) ?_;refine kQ1 [2] ?_;refine wT h ?_;exact⟨rfl,rfl⟩;refine kQ2 [0,9] ?_;refine wc (fun c9=>?_) fun c9=>?_
 obtain⟨a,b,rfl⟩:=c8H c9;refine kA1 ?_;refine xG (M5 uu9 Et Ek (q:=0) rfl (c:=a) rfl) ?_;refine kA3 ?_;refine zG (fun hc=>M5 uu9 (Eg hc) Ek (q:=1) rfl (c:=b) rfl) ?_;refine kA4 ?_;refine H9 (GU.t rfl rfl) (fun hc=>a1U Ek (Eg hc) (by simp)) Lb ?_;refine H9 (GU.t rfl rfl) (fun hc=>a1U (Eg hc) Ek (by simp)) Lb ?_;refine B4 (GU.t rfl rfl) (fun hc=>⟨Ef,(E2 Ek (Eg hc)),CT.argsE rfl (a2I hg a4W ([32]++[a,b]++[32]) (by decide) _)⟩) Lb ?_;refine kQ2 [2] ?_;refine wT h ?_;exact⟨rfl,rfl⟩;refine kQ0 [] ?_;refine kQ1 [2] ?_;refine wT h ?_;exact⟨by rw[c6x c5 c9],rfl⟩
theorem b6s (t:Tok) (h:List Res) (m:View) (hg:Glob m) (hs:t.text.length<=140737488355328):CT Tryz.prog 131 [Z8 t] h m (A9 h (.bool (G3 t))):=by
 have hs':t.text.length<=9223372036854775807:=by omega
 refine CT.body Tryz.call131 Tryz.func131 rfl Tryz.ntmps131 Lb rfl ?_;refine j0 ?_;refine xX fun b1=>?_
 refine kQ1 [1] ?_;refine kQ8 [1,10] ?_;refine wc (fun c10=>?_) fun c10=>?_
 have d:G3 t=false:=by unfold G3;rw[c10];rfl
 refine kQ1 [2] ?_;refine wT h ?_;rw[d];exact⟨rfl,rfl⟩
 refine kQ0 [1] ?_;refine kQ2 [1,12] ?_;refine kQ2 [1,12,13] ?_;refine wc (fun c13=>?_) fun c13=>?_
 refine kA6 ?_;refine B4 (GU.t rfl rfl) (fun hc=>⟨Ef,(E1 (Eg hc)),a1Z _ _ _ hg (by assumption)⟩) Lb ?_;refine kQ2 [2] ?_;refine wT h ?_;exact⟨by unfold G3;rw[c10,c13];rfl,rfl⟩;refine kQ2 [1,12,23] ?_;refine wc (fun c23=>?_) fun c23=>?_
 refine kA6 ?_;refine B4 (GU.t rfl rfl) (fun hc=>⟨Ef,(E1 (Eg hc)),a9H _ _ _ hg (by assumption)⟩) Lb ?_;refine kQ2 [2] ?_;refine wT h ?_;exact⟨by unfold G3;rw[c10,c13,c23];rfl,rfl⟩;refine kQ2 [1,12,33] ?_;refine wc (fun c33=>?_) fun c33=>?_
 refine kA6 ?_;refine B4 (GU.t rfl rfl) (fun hc=>⟨Ef,(E1 (Eg hc)),b5W _ _ _ hg⟩) Lb ?_;refine kQ2 [2] ?_;refine wT h ?_;exact⟨by unfold G3;rw[c10,c13,c23,c33];rfl,rfl⟩;refine kQ2 [1,43] ?_;refine wc (fun c43=>?_) fun c43=>?_
 refine kA2 ?_;refine xG (R6 Et Ek) ?_;refine c6A [2] ?_;refine wT h ?_;exact⟨by unfold G3;rw[c10,c13,c23,c33,c43];rfl,rfl⟩;refine kQ0 [1] ?_;refine kA6 ?_;refine zG (fun hc=>R6 (Eg hc) Ek) ?_;refine kQ2 [2] ?_;refine wT h ?_;exact⟨by unfold G3;rw[c10,c13,c23,c33,c43];rfl,rfl⟩
abbrev rdr (b:Nat) (line:B) (p:Nat):Res:=.pt b (.cells [str line,Value.int .i64 p].toArray 184 (0,0))
theorem a3g (b:Nat) (line:B) (p:Nat) (h:List Res) (m:View) (hr:rdr b line p ∈ h) (hp:p<=line.length):CT Tryz.prog 224 [.pointer (some ⟨b,0,none⟩)] h m (A9 h (str (line.drop p))):=by
 refine CT.body Tryz.call224 Tryz.func224 rfl Tryz.ntmps224 Lb rfl ?_;refine kQ1 [0] ?_;refine dS [] (.op 0 (.op 1 (.op 2 (.op 3 (.op 4 (.op 5 (.op 6 (.op 7 .nil)))))))) [8,9] F3 ?_;refine kA3 ?_;refine yG rfl (E6 uu9 rfl Et hr rfl) ?_;refine kA3 ?_;refine yG rfl (E6 uu3 rfl Et hr rfl) ?_;refine SR.nil rfl rfl ?_;refine xG (a7I uu9 Et Et rfl (by omega)) ?_;refine kQ1 [2] ?_;refine wT h ?_;exact⟨rfl,rfl⟩
abbrev tkR (p:Tok × Nat):Value:=.tuple #[Z8 p.1,.int .i64 p.2]
theorem c2d (b:Nat) (line:B) (p:Nat) (h:List Res) (m:View) (hg:Glob m) (hr:rdr b line p ∈ h) (hp:p<=line.length) (hs:line.length<=140737488355328):CT Tryz.prog 175 [.pointer (some ⟨b,0,none⟩)] h m (A9 h (tkR (a3G (line.drop p)))):=by
 have hl:(line.drop p).length<=140737488355328:=by rw[List.length_drop];omega
 have hl':(line.drop p).length<=9223372036854775807:=by omega
 have hrun:=a7K (line.drop p);have hlt:((line.drop p).take (run (line.drop p))).length<=140737488355328:=by rw[List.length_take];omega
 have hlt':((line.drop p).take (run (line.drop p))).length<=9223372036854775807:=by omega
 refine CT.body Tryz.call175 Tryz.func175 rfl Tryz.ntmps175 Lb rfl ?_;refine j0 ?_;refine xW fun b2=>?_
 refine kQ1 [0,2] ?_;refine kA1 ?_;refine xf (E1 Et) (a3g b line p _ _ (List.Mem.tail _ hr) hp) ?_;refine xf (E1 Et) (a9w _ _ _ (by assumption)) ?_;refine kQ1 [0,2,4] ?_;refine kA1 ?_;refine xf (E1 Et) (a3g b line p _ _ (List.Mem.tail _ hr) hp) ?_;refine kA1 ?_;refine xG (a7X uu9 Et Et rfl (by omega)) ?_;refine kQ1 [2,4,5] ?_;refine kA1 ?_;refine xf (E1 Et) (a9H _ _ _ hg (by assumption)) ?_;refine kQ1 [2,4,5,13] ?_;refine wc (fun c13=>?_) fun c13=>?_
 refine kQ5 [2,3] ?_;refine w2 h (h1:=cA K5) ?_;exact⟨by unfold a3G;rw[c13];rfl,rfl⟩;refine kQ3 [2,4,5,19] ?_;refine wc (fun c19=>?_) fun c19=>?_
 refine kQ3 [2,3] ?_;refine w2 h (h1:=cA K5) ?_;exact⟨by unfold a3G;rw[c13,c19];rfl,rfl⟩;refine kQ0 [2,4,5] ?_;refine kQ5 [2,3] ?_;refine w2 h (h1:=cA K5) ?_;exact⟨by unfold a3G;rw[c13,c19];rfl,rfl⟩
theorem b7r {b c:Nat} {s:B} {zs:List Value} {e:TypeId} {f:Nat × Nat} {h:List Res} {m:View} (h1:s.length<=c) (h2:c<=9223372036854775807):Rd m (.pt b (.cells (bv s++zs).toArray e f)::h) (some ⟨b,0,none⟩) s.length c 1 (bv s):=
 Rd.ofPtP (by rw[b5i];exact(Nat.mul_one _).symm) h1 h2 (List.Mem.head _)
theorem c0z (c:UInt8) (l:B) (v:Int):a5V (c::l) v=if !dig c.toNat then none else a5V l (10 * v+((c.toNat:Int) - 48)):=rfl
theorem p10 {v:Int} {k:Nat} (h:v < 10 ^ k) (hk:k<=10):v < 10000000000:=
 Int.lt_of_lt_of_le h (show(10:Int) ^ k<=10 ^ 10 by exact_mod_cast Nat.pow_le_pow_right (by decide) hk)
theorem d2Z {c:UInt8} (h:dig c.toNat=true):IntKind.u8.wrap ((c.toNat:Int) - 48)=(c.toNat:Int) - 48/\0<=(c.toNat:Int) - 48/\(c.toNat:Int) - 48 < 10:=by
 unfold dig at h;simp at h;unfold IntKind.wrap;simp[IntKind.bits,IntKind.signed];omega
theorem c9X {v:Int} (h:0<=v/\v < 10):IntKind.i64.wrap v=v:=by
 unfold IntKind.wrap;simp[IntKind.bits,IntKind.signed];omega
theorem c8O (v:Int):IntKind.i64.wrap (IntKind.i32.wrap v)=IntKind.i32.wrap v:=by
 unfold IntKind.wrap;simp[IntKind.bits,IntKind.signed];omega
theorem d1q (b:Nat) (line:B) (p:Nat) (h:List Res) (m:View) (hr:rdr b line p ∈ h) (hp:p<=line.length) (hs:line.length<=140737488355328):CT Tryz.prog 177 [.pointer (some ⟨b,0,none⟩)] h m (A9 h (tkR (b0b (line.drop p)))):=by
 have hl:(line.drop p).length<=140737488355328:=by rw[List.length_drop];omega
 have hl':(line.drop p).length<=9223372036854775807:=by omega
 have hrun:=a7K (line.drop p);have hlen:((line.drop p).take (run (line.drop p))).length=run (line.drop p):=by rw[List.length_take];omega
 have hlt':((line.drop p).take (run (line.drop p))).length<=9223372036854775807:=by omega
 refine CT.body Tryz.call177 Tryz.func177 rfl Tryz.ntmps177 Lb rfl ?_;refine j0 ?_;refine xW fun b2=>?_
 refine kQ1 [0,2] ?_;refine kA1 ?_;refine xf (E1 Et) (a3g b line p _ _ (List.Mem.tail _ hr) hp) ?_;refine xf (E1 Et) (a9w _ _ _ (by assumption)) ?_;refine kQ1 [0,2,4] ?_;refine kQ2 [0,2,4,12] ?_;refine wc (fun c12=>?_) fun c12=>?_
 refine kQ3 [2,3] ?_;refine w2 h (h1:=cA K5) ?_;exact⟨by unfold b0b;rw[c12];rfl,rfl⟩;have h10:run (line.drop p)<=10:=by simp at c12;omega
 generalize hs0:(line.drop p).take (run (line.drop p))=s at *;refine kQ0 [0,2,4] ?_;refine kQ1 [0,2,4,5] ?_;refine kA1 ?_;refine xf (E1 Et) (a3g b line p _ _ (List.Mem.tail _ hr) hp) ?_;refine kA1 ?_;refine xG (a7X uu9 Et Et rfl (by omega)) ?_;refine WL.val (v':=str s) (congrArg str hs0) ?_;refine a9T uu9 c7E uu5 Et Lb (by assumption) fun b18 z18 f18 c18 e18 g18=>?_
 refine kQ2 [2,4,5,18,19,20] ?_;refine C0 [2,4,18,19] rfl (fun μ F' h'=>∃ k:Nat,∃ v:Int,((k<=s.length/\a5V s 0=a5V (s.drop k) v)/\0<=v/\v < 10 ^ k)/\s.length - k=μ/\F'=[(5,.int .i64 v),(20,.int .i64 k)]/\.pt b18 (.cells (bv s++z18).toArray 5 f18)::.pt b2 (.cells (C1 zeroK).toArray 106 (0,0))::h=h') (s.length - 0) [(5,.int .i64 0),(20,.int .i64 0)] (h0:=.pt b18 (.cells (bv s++z18).toArray 5 f18)::.pt b2 (.cells (C1 zeroK).toArray 106 (0,0))::h) ?_ Sb ⟨0,0,⟨⟨by omega,rfl⟩,by decide,by decide⟩,rfl,rfl,rfl⟩ ?_;exact Su;rintro _ _ _ ⟨k,v,⟨⟨hk,hJ⟩,hv0,hv1⟩,rfl,rfl,rfl⟩;refine C2 rfl ?_;refine kQ1 [2,4,5,18,19,20,21] ?_;refine wc (fun c21=>?_) fun c21=>?_
 replace c21:=dT c21;obtain⟨c,hc⟩:=A5 (l:=s) (k:=k) (by omega);have hv:=p10 hv1 (by omega);have hR:=b7r (b:=b18) (zs:=z18) (e:=5) (f:=f18) (h:=.pt b2 (.cells (C1 zeroK).toArray 106 (0,0))::h) (m:=m) e18 g18;have hd:s.drop k=c::s.drop (k+1):=by rw[List.drop_eq_getElem_cons (by omega),(List.getElem?_eq_some_iff.1 hc).2]
 rw[hd,c0z] at hJ;refine kQ0 [2,4,5,18,19,20] ?_;refine kA1 ?_;refine xG (b6D uu5 rfl Rr (Ev.tmp rfl) (by assumption)) ?_;refine kQ1 [2,4,5,7,18,19,20] ?_;refine kA1 ?_;refine xf (E1 Et) (b0W _ _ _) ?_;refine kQ1 [2,4,5,7,18,19,20,26] ?_;refine wc (fun c26=>?_) fun c26=>?_
 rw[c26] at hJ;refine kQ3 [2,3] ?_;refine w2 h (h1:=cA K5) ?_;exact⟨by unfold b0b;rw[c12,hs0];simp only[Bool.false_eq_true,if_false,hJ];rfl,rfl⟩;have d26:dig c.toNat=true:=by simpa using c26
 rw[c26] at hJ;obtain⟨w1,w2,w3⟩:=d2Z d26;have hp1:10 * v+((c.toNat:Int) - 48) < 10 ^ (k+1):=by rw[Int.pow_succ];omega
 refine kQ0 [2,4,5,7,18,19,20] ?_;refine kA1 ?_;refine xG (b4C Ek Et (by omega)) ?_;refine kA2 ?_;refine WL.val (v':=.int .u8 ((c.toNat:Int) - 48)) (congrArg (Value.int .u8) w1) ?_;refine xG (PO.conv uu5 uu2 Et) ?_;refine WL.val (v':=.int .i64 ((c.toNat:Int) - 48)) (congrArg (Value.int .i64) (c9X ⟨w2,w3⟩)) ?_;refine xG (R2 Et Et (by omega)) ?_;refine kQ1 [2,4,5,18,19,20] ?_;refine kA2 ?_;refine WL.nil (B1 (s.length - (k+1)) [(5,.int .i64 (10 * v+((c.toNat:Int) - 48))),(20,.int .i64 (k+1))] (h'':=.pt b18 (.cells (bv s++z18).toArray 5 f18)::.pt b2 (.cells (C1 zeroK).toArray 106 (0,0))::h) (by omega) ?_ Su Sb ⟨k+1,10 * v+((c.toNat:Int) - 48),⟨⟨by omega,by simpa using hJ⟩,by omega,hp1⟩,rfl,rfl,rfl⟩);exact Su;replace c21:=dF c21;have hv:=p10 hv1 (by omega);rw[List.drop_eq_nil_of_le (by omega)] at hJ;refine kQ0 [2,4,5] ?_;refine kA2 ?_;refine xG (PO.conv uu2 a5i Et) ?_
 refine xG (PO.conv a5i uu2 Et) ?_;refine WL.val (v':=.int .i64 (IntKind.i32.wrap v)) (congrArg (Value.int .i64) (c8O v)) ?_;refine kQ1 [2,4,5,39] ?_;refine wc (fun c39=>?_) fun c39=>?_
 refine kQ3 [2,3] ?_;refine w2 h (h1:=cA K5) ?_;exact⟨by unfold b0b;rw[c12,hs0];simp only[Bool.false_eq_true,if_false,hJ,a5V,c39,if_true];rfl,rfl⟩;refine kQ0 [2,4,5] ?_;refine kA1 ?_;refine xG (PO.conv uu2 a5i Et) ?_;refine kQ4 [2,3] ?_;refine w2 h (h1:=cA K5) ?_;exact⟨by unfold b0b;rw[c12,hs0];simp only[Bool.false_eq_true,if_false,hJ,a5V,c39];rfl,rfl⟩
theorem b1u (l:B) (c:UInt8) (h:List Res) (m:View):CT Tryz.prog 99 [str l,.int .u8 c.toNat] h m (A9 h (.int .i64 (Lib.indexByte l c))):=
 CT.ofCalls Tryz.call99 fun w _=>by
  have:=Tryz.strings_IndexByte ⟨l.toArray⟩ c.toNat w;simpa using this
theorem p16 {v:Int} {k:Nat} (h:v < 16 ^ k) (hk:k<=7):v < 268435456:=
 Int.lt_of_lt_of_le h (show(16:Int) ^ k<=16 ^ 7 by exact_mod_cast Nat.pow_le_pow_right (by decide) hk)
theorem c6C {v:Int} (h:0<=v/\v < 268435456):c8A .u32 v 4=16 * v:=by
 unfold c8A IntKind.wrap;simp[IntKind.bits,IntKind.signed];omega
theorem b2g {v:Int} (h:0<=v/\v < 4294967296):IntKind.u32.wrap v=v:=by
 unfold IntKind.wrap;simp[IntKind.bits,IntKind.signed];omega
theorem c7t {v d:Int} (hv:0<=v/\v < 268435456) (hd:0<=d/\d < 16):bor .u32 (16 * v) d=16 * v+d:=by
 obtain⟨a,rfl⟩:∃ a:Nat,v=a:=⟨v.toNat,by omega⟩;obtain⟨b,rfl⟩:∃ b:Nat,d=b:=⟨d.toNat,by omega⟩;have e:(BitVec.ofInt 32 (16 * (a:Int)) ||| BitVec.ofInt 32 (b:Int)).toNat=16 * a+b:=by
  rw[show(16 * (a:Int))=((16 * a:Nat):Int) by simp,BitVec.ofInt_natCast,BitVec.ofInt_natCast,BitVec.toNat_or,BitVec.toNat_ofNat,BitVec.toNat_ofNat,Nat.mod_eq_of_lt (by omega),Nat.mod_eq_of_lt (by omega)];have:=Nat.shiftLeft_add_eq_or_of_lt (b:=b) (i:=4) (by omega) a;rw[Nat.shiftLeft_eq] at this;rw[Nat.mul_comm 16 a];exact this.symm
 unfold bor;rw[show IntKind.u32.bits=32 from rfl,e,b2g (by omega)];simp
theorem c1d (c:UInt8) (l:B) (v:Int):b0g (c::l) v=if decide (a5N c < 0) then none else b0g l (16 * v+a5N c):=rfl
theorem a6S (c:UInt8):∀ l:B,Lib.indexByte l c<=(l.length:Int) - 1
 | []=>Int.le_refl (-1)
 | b::l=>by
  have ih:=a6S c l;unfold Lib.indexByte;rw[List.length_cons];split
  ·omega
  ·split <;> omega
theorem c6w (c:UInt8):a5N c < 16:=by
 have:=a6S c Q6;have e:(Q6.length:Int)=16:=rfl;unfold a5N;omega
theorem c0i (s:B) (h:List Res) (m:View) (hs:s.length<=8):CT Tryz.prog 225 [str s] h m (A9 h (.tuple #[.int .u32 (a1V s).1,.bool (a1V s).2])):=by
 have hs':s.length<=9223372036854775807:=by omega
 refine CT.body Tryz.call225 Tryz.func225 rfl Tryz.ntmps225 Lb rfl ?_;refine kQ2 [0,2] ?_;refine kA1 ?_;refine a9T uu9 c7E uu5 Et Lb (by assumption) fun b8 z8 f8 c8 e8 g8=>?_
 refine kQ2 [0,2,8,9,10] ?_;refine C0 [0,8,9] rfl (fun μ F' h'=>∃ k:Nat,∃ v:Int,((k<=s.length/\b0g s 0=b0g (s.drop k) v)/\0<=v/\v < 16 ^ k)/\s.length - k=μ/\F'=[(2,.int .u32 v),(10,.int .i64 k)]/\.pt b8 (.cells (bv s++z8).toArray 5 f8)::h=h') (s.length - 0) [(2,.int .u32 0),(10,.int .i64 0)] (h0:=.pt b8 (.cells (bv s++z8).toArray 5 f8)::h) ?_ Sb ⟨0,0,⟨⟨by omega,rfl⟩,by decide,by decide⟩,rfl,rfl,rfl⟩ ?_;exact Su;rintro _ _ _ ⟨k,v,⟨⟨hk,hJ⟩,hv0,hv1⟩,rfl,rfl,rfl⟩;refine C2 rfl ?_;refine kQ1 [0,2,8,9,10,11] ?_;refine wc (fun c11=>?_) fun c11=>?_
 replace c11:=dT c11;obtain⟨c,hc⟩:=A5 (l:=s) (k:=k) (by omega);have hv:=p16 hv1 (by omega);have hR:=b7r (b:=b8) (zs:=z8) (e:=5) (f:=f8) (h:=h) (m:=m) e8 g8;have hd:s.drop k=c::s.drop (k+1):=by rw[List.drop_eq_getElem_cons (by omega),(List.getElem?_eq_some_iff.1 hc).2]
 rw[hd,c1d] at hJ;refine kQ0 [0,2,8,9,10] ?_;refine kA1 ?_;refine xG (b6D uu5 rfl Rr (Ev.tmp rfl) (by assumption)) ?_;refine kQ1 [0,2,5,8,9,10] ?_;refine kA1 ?_;refine xf (E2 Ek Et) (CT.argsE rfl (b1u Q6 c _ _)) ?_;refine WL.val (v':=.int .i64 (a5N c)) rfl ?_;refine kQ1 [0,2,6,8,9,10] ?_;refine kQ2 [0,2,6,8,9,10,17] ?_;refine wc (fun c17=>?_) fun c17=>?_
 rw[c17] at hJ;refine kQ2 [2,3] ?_;refine w2 h ?_;exact⟨by unfold a1V;rw[hJ];rfl,rfl⟩;rw[c17] at hJ;have d17:¬ a5N c < 0:=dF c17;have dlt:=c6w c;have hp1:16 * v+a5N c < 16 ^ (k+1):=by rw[Int.pow_succ];omega
 refine kQ0 [0,2,6,8,9,10] ?_;refine kA1 ?_;refine xG (PO.shl Et Ek (by decide)) ?_;refine WL.val (v':=.int .u32 (16 * v)) (congrArg (Value.int .u32) (c6C ⟨hv0,hv⟩)) ?_;refine kA1 ?_;refine xG (PO.conv uu3 b6R Et) ?_;refine WL.val (v':=.int .u32 (a5N c)) (congrArg (Value.int .u32) (b2g (by omega))) ?_;refine kA1 ?_;refine WL.val (v':=.int .u32 (16 * v+a5N c)) (congrArg (Value.int .u32) (c7t ⟨hv0,hv⟩ (by omega))) ?_;refine kQ1 [0,2,8,9,10] ?_;refine kA2 ?_;refine WL.nil (B1 (s.length - (k+1)) [(2,.int .u32 (16 * v+a5N c)),(10,.int .i64 (k+1))] (h'':=.pt b8 (.cells (bv s++z8).toArray 5 f8)::h) (by omega) ?_ Su Sb ⟨k+1,16 * v+a5N c,⟨⟨by omega,by simpa using hJ⟩,by omega,hp1⟩,rfl,rfl,rfl⟩);exact Su;replace c11:=dF c11;rw[List.drop_eq_nil_of_le (by omega)] at hJ;refine kQ0 [0,2] ?_;refine kA2 ?_;refine xG (W9 Et Ek) ?_;refine kQ2 [2,3] ?_;refine w2 h ?_;exact⟨by unfold a1V;rw[hJ];rfl,rfl⟩
theorem c9L (b:Nat) (line:B) (p:Nat) (h:List Res) (m:View) (hr:rdr b line p ∈ h) (hp:p < line.length) (hs:line.length<=140737488355328):CT Tryz.prog 178 [.pointer (some ⟨b,0,none⟩)] h m (A9 h (tkR (b1m (line.drop p)))):=by
 have hl0:(line.drop p).length=line.length - p:=List.length_drop;have hl:((line.drop p).drop 1).length<=140737488355328:=by rw[List.length_drop];omega
 have hl':((line.drop p).drop 1).length<=9223372036854775807:=by omega
 have hrun:=a7K ((line.drop p).drop 1);have hlen:((line.drop p).drop 1).length=line.length - p - 1:=by rw[List.length_drop,hl0]
 refine CT.body Tryz.call178 Tryz.func178 rfl Tryz.ntmps178 Lb rfl ?_;refine j0 ?_;refine xW fun b2=>?_
 refine kQ1 [0,2] ?_;refine kA1 ?_;refine xf (E1 Et) (a3g b line p _ _ (List.Mem.tail _ hr) (by omega)) ?_;refine xG (a7I uu9 Et Ek (l:=1) rfl (by omega)) ?_;refine xf (E1 Et) (a9w _ _ _ (by assumption)) ?_;refine kQ1 [0,2,4] ?_;refine kQ2 [0,2,4,12] ?_;refine wc (fun c12=>?_) fun c12=>?_
 refine kQ3 [2,3] ?_;refine w2 h (h1:=cA K5) ?_;exact⟨by unfold b1m;rw[c12];rfl,rfl⟩;have h8:run ((line.drop p).drop 1)<=8:=by have:=of_decide_eq_false c12;omega
 have h8':(((line.drop p).drop 1).take (run ((line.drop p).drop 1))).length<=8:=by rw[List.length_take];omega
 refine kQ0 [0,2,4] ?_;refine kA1 ?_;refine xf (E1 Et) (a3g b line p _ _ (List.Mem.tail _ hr) (by omega)) ?_;refine kA1 ?_;refine xG (R2 Ek Et (by omega)) ?_;refine WL.val (v':=.int .i64 ((1+run ((line.drop p).drop 1):Nat):Int)) (congrArg (Value.int .i64) (by omega)) ?_;refine xG (a2B uu9 Et Ek Et (l:=1) rfl rfl (by omega) (by omega)) ?_;refine WL.val (v':=str (((line.drop p).drop 1).take (run ((line.drop p).drop 1)))) (by rw[Nat.add_sub_cancel_left]) ?_;refine xf (E1 Et) (c0i _ _ _ (by assumption)) ?_;refine kQ5 [2,4,5,6] ?_;refine kQ2 [2,4,5,24] ?_;refine wc (fun c24=>?_) fun c24=>?_
 refine kQ3 [2,3] ?_;refine w2 h (h1:=cA K5) ?_;exact⟨by unfold b1m;rw[c12];simp only[Bool.false_eq_true,if_false,c24,if_true];rfl,rfl⟩;refine kQ0 [2,4,5] ?_;refine kA1 ?_;refine xG (PO.conv b6R a5i Et) ?_;refine kA2 ?_;refine xG (R2 Ek Et (by omega)) ?_;refine kQ2 [2,3] ?_;refine w2 h (h1:=cA K5) ?_;exact⟨by unfold b1m;rw[c12];simp only[Bool.false_eq_true,if_false,c24];rfl,rfl⟩
theorem b4g {s:B} {i:Nat} {c:UInt8} (h:s[i]?=some c):chB s i=(c.toNat:Int):=by unfold chB;rw[List.getD_eq_getElem?_getD,h];rfl
theorem b3w {v:Int} (h:0<=v/\v < 256):IntKind.i32.wrap v=v:=by
 unfold IntKind.wrap;simp[IntKind.bits,IntKind.signed];omega
theorem c02 (c:UInt8):IntKind.i32.wrap (c.toNat:Int)=(c.toNat:Int):=b3w ⟨by omega,by have:=c.toNat_lt;omega⟩
theorem c2N {s:B} (h:s.length<=2):0<=(a1V s).1/\(a1V s).1 < 256:=by
 unfold a1V;rw[a6z];cases hv:b0c 16 s 0 with
 | none=>exact⟨Int.le_refl 0,show(0:Int) < 256 by decide⟩
 | some v=>
  have hb:=a3C (by decide) a6L s 0 v (by decide) hv;have hp:(16:Int) ^ s.length<=16 ^ 2:=by exact_mod_cast Nat.pow_le_pow_right (by decide) h
  simp only;omega
theorem c7h (s:B) (h:List Res) (m:View) (hs:s.length<=9223372036854775807):CT Tryz.prog 226 [str s] h m (A9 h (.tuple #[.int .i32 (L1 s).1,.int .i64 (L1 s).2])):=by
 match s with
 | []=>
  refine CT.body Tryz.call226 Tryz.func226 rfl Tryz.ntmps226 Lb rfl ?_;refine kQ2 [0] ?_;refine kA1 ?_;refine xG (R6 Et Ek) ?_;refine kA2 ?_;refine H9 (GU.f rfl rfl) (fun hc=>M5 uu9 (Eg hc) Ek (q:=0) rfl (c:=0) (by simp at hc)) Lb ?_;refine kA4 ?_;refine H9 (GU.f rfl rfl) (fun hc=>M5 uu9 (Eg hc) Ek (q:=0) rfl (c:=0) (by simp at hc)) Lb ?_;refine kA4 ?_;refine H9 (GU.f rfl rfl) (fun hc=>M5 uu9 (Eg hc) Ek (q:=0) rfl (c:=0) (by simp at hc)) Lb ?_;refine kQ3 [0,7] ?_;refine wc (fun c7=>?_) fun c7=>?_
  refine kQ2 [2,3] ?_;refine w2 h ?_;exact⟨rfl,rfl⟩;simp at c7
 | a::t=>
  refine CT.body Tryz.call226 Tryz.func226 rfl Tryz.ntmps226 Lb rfl ?_;refine kQ2 [0] ?_;refine kA1 ?_;refine xG (R6 Et Ek) ?_;refine kA2 ?_;refine zG (fun hc=>M5 uu9 (Eg hc) Ek (q:=0) rfl (c:=a) rfl) ?_;refine kA4 ?_;refine zG (fun hc=>M5 uu9 (Eg hc) Ek (q:=0) rfl (c:=a) rfl) ?_;refine kA4 ?_;refine zG (fun hc=>M5 uu9 (Eg hc) Ek (q:=0) rfl (c:=a) rfl) ?_;refine kQ3 [0,7] ?_;refine wc (fun c7=>?_) fun c7=>?_
  have d7:((a::t==[])||decide (chB (a::t) 0 < 32)||decide (chB (a::t) 0 > 126)||(chB (a::t) 0==39))=true:=c7;refine kQ2 [2,3] ?_;refine w2 h ?_;exact⟨by unfold L1;rw[d7];rfl,rfl⟩;have d7:((a::t==[])||decide (chB (a::t) 0 < 32)||decide (chB (a::t) 0 > 126)||(chB (a::t) 0==39))=false:=c7;refine kA1 ?_;refine xG (M5 uu9 Et Ek (q:=0) rfl (c:=a) rfl) ?_;refine kQ2 [0,25] ?_;refine wc (fun c25=>?_) fun c25=>?_
  have d25:(chB (a::t) 0 != 42)=true:=c25;refine kA1 ?_;refine xG (M5 uu9 Et Ek (q:=0) rfl (c:=a) rfl) ?_;refine xG (PO.conv uu5 a5i Et) ?_;refine WL.val (v':=.int .i32 (a.toNat:Int)) (congrArg (Value.int .i32) (c02 a)) ?_;refine kQ2 [2,3] ?_;refine w2 h ?_;exact⟨by unfold L1;rw[d7,d25];rfl,rfl⟩;have d25:(chB (a::t) 0 != 42)=false:=c25;refine kA1 ?_;refine xG (P4 uu9 Et) ?_;refine kQ2 [0,32] ?_;refine wc (fun c32=>?_) fun c32=>?_
  refine kQ2 [2,3] ?_;refine w2 h ?_;exact⟨by unfold L1;rw[d7,d25,c32];rfl,rfl⟩;have h2:2<=(a::t).length:=by simp at c32 ⊢;omega
  obtain⟨c1,hc1⟩:=A5 (l:=a::t) (k:=1) (by omega);have g1:(a::t).getD 1 0=c1:=by rw[List.getD_eq_getElem?_getD,hc1];rfl
  refine kQ0 [0] ?_;refine kA1 ?_;refine xG (M5 uu9 Et Ek (q:=1) rfl (by assumption)) ?_;refine xf (E2 Ek Et) (CT.argsE rfl (b1u a8S c1 _ _)) ?_;refine WL.val (v':=.int .i64 (esc c1)) rfl ?_;refine kQ1 [0,4] ?_;refine kQ2 [0,4,40] ?_;refine wc (fun c40=>?_) fun c40=>?_
  have d40:decide (esc ((a::t).getD 1 0) >= 0)=true:=by rw[g1];exact c40
  have he0:0<=esc c1:=dT c40;have he1:(esc c1).toNat < 7:=by have:=a6S c1 a8S;have e:(a8S.length:Int)=7:=rfl;unfold esc at he0 ⊢;omega
  obtain⟨x,hx⟩:=A5 (l:=a3A) (k:=(esc c1).toNat) he1;refine kA1 ?_;refine WL.val (v':=.int .i64 ((esc c1).toNat:Int)) (congrArg (Value.int .i64) (by omega)) ?_;refine xG (M5 uu9 Ek Et rfl (by assumption)) ?_;refine xG (PO.conv uu5 a5i Et) ?_;refine WL.val (v':=.int .i32 (x.toNat:Int)) (congrArg (Value.int .i32) (c02 x)) ?_;refine kQ2 [2,3] ?_;refine w2 h ?_;exact⟨by unfold L1;rw[d7,d25,c32,d40,g1,b4g hx];rfl,rfl⟩;have d40:decide (esc ((a::t).getD 1 0) >= 0)=false:=by rw[g1];exact c40
  refine kQ0 [0] ?_;refine kA1 ?_;refine xG (M5 uu9 Et Ek (q:=1) rfl (by assumption)) ?_;refine kA3 ?_;refine zG (fun hc=>P4 uu9 (Eg hc)) ?_;refine kQ2 [0,51] ?_;refine wc (fun c51=>?_) fun c51=>?_
  have d51:((chB (a::t) 1 != 35)||decide (((a::t).length:Int) < 4))=true:=by rw[b4g hc1];exact c51
  refine kQ2 [2,3] ?_;refine w2 h ?_;exact⟨by unfold L1;rw[d7,d25,c32,d40,d51];rfl,rfl⟩;have d51:((chB (a::t) 1 != 35)||decide (((a::t).length:Int) < 4))=false:=by rw[b4g hc1];exact c51
  have h4:4<=(a::t).length:=by simp at c51 ⊢;omega
  have hsl:(((a::t).drop 2).take 2).length<=8:=by rw[List.length_take];omega
  have hx:=c2N (s:=((a::t).drop 2).take 2) (by rw[List.length_take];omega);refine kQ0 [0] ?_;refine kA1 ?_;refine xG (a2B uu9 Et Ek Ek (l:=2) (u:=4) rfl rfl (by omega) (by omega)) ?_;refine WL.val (v':=str (((a::t).drop 2).take 2)) rfl ?_;refine xf (E1 Et) (c0i _ _ _ (by assumption)) ?_;refine kQ5 [5,6] ?_;refine kQ2 [5,59] ?_;refine wc (fun c59=>?_) fun c59=>?_
  refine kQ2 [2,3] ?_;refine w2 h ?_;exact⟨by unfold L1;rw[d7,d25,c32,d40,d51,c59];rfl,rfl⟩;refine kQ0 [5] ?_;refine kA1 ?_;refine xG (PO.conv b6R a5i Et) ?_;refine WL.val (v':=.int .i32 (a1V (((a::t).drop 2).take 2)).1) (congrArg (Value.int .i32) (b3w hx)) ?_;refine kQ2 [2,3] ?_;refine w2 h ?_;exact⟨by unfold L1;rw[d7,d25,c32,d40,d51,c59];rfl,rfl⟩
end
section
open Go.Eng Go.Xp Go
open Go.Ty (Tok C1 C5 Z8)
open Go.Lx (G3)
theorem a4c {h hs:List Res} (q:h.Sublist hs) (fr:List Res):h.Sublist (fr++hs):=q.trans (List.sublist_append_right fr hs)
abbrev K1 (b:Nat) (a:Option Addr) (c:Nat) (ts:List Tok) (k:Int) (o:Int):Res:=.pt b (.cells [.slice a ts.length c,.int .i64 k,.int .i64 o].toArray 259 (0,0))
structure Tks (m:View) (h:List Res) (a:Option Addr) (c:Nat) (ts:List Tok):Prop where
 rd:Rd m h a ts.length c 4 (fl C1 ts)
 le:ts.length<=1000000
 tx:∀ t ∈ ts,t.text.length<=140737488355328
theorem Tks.mono {m:View} {h h':List Res} {a:Option Addr} {c:Nat} {ts:List Tok} (q:Tks m h a c ts) (s:h.Sublist h'):Tks m h' a c ts:=⟨q.rd.mono Vl s,q.le,q.tx⟩
theorem W6 {m:View} (hg:Glob m) (b:Nat) (a:Option Addr) (c:Nat) (ts:List Tok) (k:Nat) (o:Int) (h:List Res) (hr:K1 b a c ts k o ∈ h) (hk:Tks m h a c ts):CT Tryz.prog 240 [.pointer (some ⟨b,0,none⟩)] h m (A9 h (Z8 (C6 (ts.drop k)))):=by
 have hrd:=hk.rd;have hle:=hk.le;obtain⟨t,ht⟩:∃ t,t=ts.getD k zeroT:=⟨_,rfl⟩;have hel:k < ts.length->ts[k]?=some t:=fun hq=>by rw[ht,List.getD_eq_getElem?_getD,List.getElem?_eq_getElem hq];rfl
 have htx:t.text.length<=140737488355328:=by
  rcases Nat.lt_or_ge k ts.length with hq | hq
  ·exact hk.tx t (List.mem_of_getElem? (hel hq))
  ·rw[ht,List.getD_eq_getElem?_getD,List.getElem?_eq_none hq];decide
 refine CT.body Tryz.call240 Tryz.func240 rfl Tryz.ntmps240 Lb rfl ?_;refine j0 ?_;refine xW fun b2=>?_
 refine kQ0 [0,2] ?_;refine dS [] (.op 0 (.op 1 (.op 2 (.op 3 (.op 4 (.op 5 (.op 6 (.op 7 (.op 8 (.op 9 (.op 10 (.op 11 (.op 12 (.op 13 (.op 14 (.op 15 (.op 16 (.op 17 (.op 18 .nil))))))))))))))))))) [19,20,21,22,23] F3 ?_;refine kA3 ?_;refine yG rfl (E6 uu3 rfl Et (List.mem_cons_of_mem _ hr) rfl) ?_;refine kA3 ?_;refine yG rfl (E6 a1Y rfl Et (List.mem_cons_of_mem _ hr) rfl) ?_;refine yG rfl (X1 a1Y Et) ?_;refine yG rfl (S0 Et Et rfl) ?_;refine kA1 ?_;refine B9 rfl rfl (GU.f rfl rfl) (fun hc=>PO.move Et) Lb ?_;refine B9 rfl rfl (GU.f rfl rfl) (fun hc=>PO.nilCheck (Eg hc)) Lb ?_;refine B9 rfl rfl (GU.f rfl rfl) (fun hc=>PO.fieldAddr c5N rfl (Nat.ne_of_beq_eq_false rfl) (Eg hc)) Lb ?_;refine B9 rfl rfl (GU.f rfl rfl) (fun hc=>E6 a1Y rfl (Eg hc) (List.mem_cons_of_mem _ hr) rfl) Lb ?_;refine B9 rfl rfl (GU.f rfl rfl) (fun hc=>PO.move Et) Lb ?_
 refine B9 rfl rfl (GU.f rfl rfl) (fun hc=>PO.nilCheck (Eg hc)) Lb ?_;refine B9 rfl rfl (GU.f rfl rfl) (fun hc=>PO.fieldAddr c5N rfl (Nat.ne_of_beq_eq_false rfl) (Eg hc)) Lb ?_;refine B9 rfl rfl (GU.f rfl rfl) (fun hc=>E6 uu3 rfl (Eg hc) (List.mem_cons_of_mem _ hr) rfl) Lb ?_;refine SR.nil rfl rfl ?_;refine H9 (GU.f rfl rfl) (fun hc=>H8 B3.und B3.size B3.posz (Eg hc) (Eg hc) Rr rfl (by simp at hc;omega)) Lb ?_;refine H9 (GU.f rfl rfl) (fun hc=>a7a K5 rfl rfl C5 Rr (Eg hc) (hel (by simp at hc;omega)) rfl rfl (Nat.succ_pos _)) Lb ?_;refine B4 (GU.f rfl rfl) (fun hc=>⟨Ef,(E1 (Eg hc)),b6s t _ _ hg htx⟩) Lb ?_;refine kQ2 [0,2,27] ?_;refine wc (fun c27=>?_) fun c27=>?_
 have hz:C6 (ts.drop k)=zeroT:=by
  rcases Nat.lt_or_ge k ts.length with hq | hq
  ·rw[a1k (hel hq),a3k]
   have h1:decide ((k:Int) >= (ts.length:Int))=false:=decide_eq_false (by omega);rw[h1] at c27;have h2:G3 t=false:=by simpa using c27
   rw[h2];rfl
  ·rw[List.drop_eq_nil_of_le hq];rfl
 refine kQ2 [2] ?_;refine WC.ret (b1K (h':=h) (.inl rfl) rfl (L9 K5 rfl rfl rfl Me rfl) Vl Sb ?_);exact⟨by rw[hz];rfl,rfl⟩;have hq:k < ts.length:=by
  rcases Nat.lt_or_ge k ts.length with hq | hq
  ·exact hq
  ·have h1:decide ((k:Int) >= (ts.length:Int))=true:=decide_eq_true (by omega)
   rw[h1] at c27;cases c27
 have hx:=hel hq;have hz:C6 (ts.drop k)={ t with at_:=0 }:=by
  have h1:decide ((k:Int) >= (ts.length:Int))=false:=decide_eq_false (by omega);rw[h1] at c27;have h2:G3 t=true:=by simpa using c27
  rw[a1k hx,a3k,h2];rfl
 refine kQ0 [0,2] ?_;refine dS [10] (.op 0 (.op 1 (.op 2 (.op 3 (.op 4 (.op 5 (.op 6 (.op 7 (.op 8 (.op 9 (.op 10 .nil))))))))))) [11] F3 ?_;refine kA3 ?_;refine yG rfl (E6 a1Y rfl Et (List.mem_cons_of_mem _ hr) rfl) ?_;refine kA3 ?_;refine yG rfl (E6 uu3 rfl Et (List.mem_cons_of_mem _ hr) rfl) ?_;refine kA2 ?_;refine SR.alloc rfl rfl rfl rfl Lb fun b3=>?_
 refine SR.nil rfl rfl ?_;refine kQ1 [2,3] ?_;refine kQ2 [2,3] ?_;refine kQ2 [2] ?_;refine WC.ret (b1K (h':=h) (.inl rfl) rfl (L9 K5 rfl rfl rfl Me rfl) Vl Sb ?_);exact⟨by rw[hz];rfl,rfl⟩
abbrev c2X (e:Int):Value:=.iface 255 (.agg #[.int .i64 e])
theorem a1E {t u:Tok} (h:Go.Ty.eqK t u=true):t=u:=(Go.Ty.eqK_iff t u).1 h
theorem a1F {t u:Tok} (h:Go.Ty.eqK t u=false):t≠u:=fun q=>by rw[(Go.Ty.eqK_iff t u).2 q] at h;cases h
theorem Z7 {k:Nat} {ts:List Tok} (h:(C6 (ts.drop k)).kind≠0):k < ts.length:=c8a (c1X h)
theorem b9y {m:View} (hg:Glob m) (b:Nat) (a:Option Addr) (c:Nat) (ts:List Tok) (k:Nat) (o:Int) (u:Tok) (h:List Res) (hk:Tks m h a c ts) (hkl:k<=ts.length) :
 CX Tryz.prog 248 [.pointer (some ⟨b,0,none⟩),Z8 u] (K1 b a c ts k o::h) m (fun _ _ h'=>C6 (ts.drop k)=u/\h'=K1 b a c ts (k+1:Nat) o::h) (fun v h'=>C6 (ts.drop k)≠u/\v=c2X 100/\h'=K1 b a c ts k o::h):=by
 have hle:=hk.le;refine CX.body Tryz.call248 Tryz.func248 rfl Tryz.ntmps248 Lb rfl ?_;refine j0 ?_;refine xX fun b3=>?_
 refine kQ0 [0,3] ?_;refine dS [1] (.op 0 (.op 2 (.op 1 .nil))) [3] F3 ?_;refine kA2 ?_;refine yf rfl (E1 Et) (fun fr=>W6 hg b a c ts k o _ (List.mem_append_right fr Me) (Tks.mono hk (a4c Sb fr))) ?_;refine SR.nil rfl rfl ?_;refine xG (b5v K5 (by kernel_rfl) (by kernel_rfl) Et Et rfl) ?_;refine kQ0 [0,7] ?_;refine wc (fun c7=>?_) fun c7=>?_
 have d7:Go.Ty.eqK (C6 (ts.drop k)) u=false:=by have c7':(!Go.Ty.eqK (C6 (ts.drop k)) u)=true:=c7;simpa using c7'
 refine kA1 ?_;refine xG (a0B b3T Et) ?_;refine WL.panic Et (a3J (P:=Tryz.prog) (fn:=Tryz.f248) (K1 b a c ts k o::h) Vl Sb ?_);exact⟨a1F d7,rfl,rfl⟩;have d7:Go.Ty.eqK (C6 (ts.drop k)) u=true:=by have c7':(!Go.Ty.eqK (C6 (ts.drop k)) u)=false:=c7;simpa using c7'
 refine kQ0 [0] ?_;refine kA8 ?_;refine WL.nil (toX (.inr rfl) (b4l (h':=K1 b a c ts (k+1:Nat) o::h) (.inr rfl) rfl  Vl Sb ?_));exact⟨a1E d7,rfl⟩
theorem c5s (t:Tok) (n o:Nat):opF t (n+1) o=if t=M3 o then o else opF t n (o+1):=rfl
theorem d2Q {m:View} (hg:Glob m) (b:Nat) (a:Option Addr) (c:Nat) (ts:List Tok) (k:Nat) (o:Int) (p z:Nat) (hp:p<=z/\z<=100) (h0:p≠0) (h:List Res) (hk:Tks m h a c ts) (hkl:k<=ts.length) :
 CT Tryz.prog 242 [.pointer (some ⟨b,0,none⟩),.int .u8 p,.int .u8 z] (K1 b a c ts k o::h) m
  (fun v _ h'=>v=.int .u8 (opF (C6 (ts.drop k)) (z+1 - p) p)/\h'=K1 b a c ts (if opF (C6 (ts.drop k)) (z+1 - p) p=0 then k else k+1:Nat) o::h):=by
 have hle:=hk.le;obtain⟨t,ht⟩:∃ t,t=C6 (ts.drop k):=⟨_,rfl⟩;refine CT.body Tryz.call242 Tryz.func242 rfl Tryz.ntmps242 Lb rfl ?_;refine kQ1 [0,1,2] ?_;refine kA1 ?_;refine xf (E1 Et) (W6 hg b a c ts k o _ Me (hk.mono Sb)) ?_;refine xW fun b7=>?_
 refine kA1 ?_;rw[<- ht];refine kQ0 [0,1,2,7] ?_;refine kQ2 [0,2,7,8] ?_;refine C0 [0,2,7] rfl (fun μ F' h'=>∃ j:Nat,((p<=j/\j<=z+1)/\opF t (z+1 - p) p=opF t (z+1 - j) j)/\z+1 - j=μ/\F'=[(8,.int .u8 j)]/\.pt b7 (.cells (C1 t).toArray 106 (0,0))::K1 b a c ts k o::h=h') (z+1 - p) [(8,.int .u8 p)] (h0:=.pt b7 (.cells (C1 t).toArray 106 (0,0))::K1 b a c ts k o::h) ?_ Sb ⟨p,⟨⟨by omega,by omega⟩,rfl⟩,rfl,rfl,rfl⟩ ?_;exact Su;rintro _ _ _ ⟨j,⟨hj,hJ⟩,rfl,rfl,rfl⟩;refine C2 rfl ?_;refine kQ3 [0,2,7,8,14] ?_;refine wc (fun c14=>?_) fun c14=>?_
 replace c14:=dT c14;obtain⟨n,hn⟩:∃ n,z+1 - j=n+1:=⟨z - j,by omega⟩;have hn2:z+1 - (j+1)=n:=by omega
 rw[hn,c5s] at hJ;refine kQ0 [0,2,7,8] ?_;refine dS [2] (.op 0 (.op 1 (.op 2 .nil))) [3] F3 ?_;refine kA2 ?_;refine yf rfl (E1 Et) (fun fr=>a6b hg j (by omega) _) ?_;refine SR.nil rfl rfl ?_;refine xG (a2z K5 (by kernel_rfl) (by kernel_rfl) Et Et rfl) ?_;refine kQ0 [0,2,7,8,20] ?_;refine wc (fun c20=>?_) fun c20=>?_
 have d20:t=M3 j:=a1E c20;rw[if_pos d20] at hJ;refine kQ8 [8] ?_;refine kQ2 [6] ?_;refine wT (K1 b a c ts (k+1:Nat) o::h) ?_
 (try rw[<- ht]);rw[hJ,if_neg (by omega)];exact⟨rfl,rfl⟩
 have d20:t≠M3 j:=a1F c20;rw[if_neg d20] at hJ;refine kQ0 [0,2,7,8] ?_;refine kA2 ?_;refine WL.val (v':=.int .u8 (j+1:Nat)) (congrArg (Value.int .u8) (by unfold IntKind.wrap;simp[IntKind.bits,IntKind.signed];omega)) ?_;refine kA1 ?_;refine WL.nil (B1 (z+1 - (j+1)) [(8,.int .u8 (j+1))] (h'':=.pt b7 (.cells (C1 t).toArray 106 (0,0))::K1 b a c ts k o::h) (by omega) ?_ Su Sb ⟨j+1,⟨⟨by omega,by omega⟩,by rw[hn2];exact hJ⟩,rfl,rfl,rfl⟩);exact Su;replace c14:=dF c14;rw[show z+1 - j=0 by omega] at hJ;replace hJ:opF t (z+1 - p) p=0:=hJ;refine kQ0 [] ?_;refine kQ1 [6] ?_;refine wT (K1 b a c ts k o::h) ?_
 (try rw[<- ht]);rw[hJ,if_pos rfl];exact⟨rfl,rfl⟩
end
section
open Go.Eng Go.Xp Go
open Go.Ty (Tok C1 C5 Z8)
open Go.Lx (G3)
abbrev d3E (m:View) (b:Nat) (a:Option Addr) (c:Nat) (ts:List Tok) (o:Int) (res:a0y) (v:Value) (hp:List Res):Prop:=
 ∃ (x:Ex) (k':Nat) (t:Ex) (bl:List Res),(res=.ok (x,ts.drop k')/\k'<=ts.length)/\v=exV t/\(B2 t=x/\TOk m bl t/\Wf t)/\hp=K1 b a c ts k' o::bl
abbrev d3l (b:Nat) (a:Option Addr) (c:Nat) (ts:List Tok) (res:a0y) (v:Value) (h h':List Res):Prop:=
 ∃ (e k o:Int),res=.error e/\v=c2X e/\h'=K1 b a c ts k o::h
abbrev PCX (m:View) (f:FuncId) (args:List Value) (b:Nat) (a:Option Addr) (c:Nat) (ts:List Tok) (k:Nat) (o:Int) (res:a0y) (h:List Res):Prop:=
 CX Tryz.prog f args (K1 b a c ts k o::h) m (fun v _ h'=>∃ hp,h'=hp++h/\d3E m b a c ts o res v hp) (fun v h'=>d3l b a c ts res v h h')
theorem a1r (ts:List Tok) (k:Nat):(ts.drop k).tail=ts.drop (k+1):=by rw[List.tail_drop]
theorem a3W (m:View) (bl:List Res) (k o t n:Int) (s:B):TOk m bl (.mk k o t n s none 0 []):=.mk (Rd.nilF exE 6 m bl) (fun _ hx=>(List.not_mem_nil hx).elim)
theorem b4m {m:View} {bl:List Res} {x:Ex} (q:TOk m bl x) (b:Nat) (k o t n:Int) (s:B):TOk m (.pt b (.cells (exE x).toArray 35 (0,0))::bl) (.mk k o t n s (some ⟨b,0,none⟩) 1 [x]):=
 .mk (Rd.ofPt rfl (by show 1<=_;decide) (List.Mem.head _)) (fun y hy=>by rw[List.mem_singleton] at hy;subst hy;exact q.mono (List.sublist_cons_self _ _))
theorem c6p {m:View} {bl bl2:List Res} {x y:Ex} (q:TOk m bl x) (r:TOk m bl2 y) (b:Nat) (k o t n:Int) (s:B):TOk m (.pt b (.cells (exE x++exE y).toArray 35 (0,0))::(bl2++bl)) (.mk k o t n s (some ⟨b,0,none⟩) 2 [x,y]):=
 .mk (Rd.ofPt rfl (by show 2<=_;decide) (List.Mem.head _)) (fun z hz=>by
 rcases List.mem_cons.1 hz with rfl | hz
 ·exact q.mono ((List.sublist_append_right _ _).cons _)
 ·rw[List.mem_singleton] at hz
  subst hz;exact r.mono ((List.sublist_append_left _ _).cons _))
theorem b8a {x:Ex} (q:Wf x) {k o t n:Int} {s:B} {a:Option Addr} {c:Nat} (hk:0<=k/\k<=255) (ho:0<=o/\o<=255) (ht:0<=t/\t<=255) (hn:-2147483648<=n/\n<=2147483647) (hs:s.length<=140737488355328):Wf (.mk k o t n s a c [x]):=
 .mk hk ho ht hn hs fun y hy=>by rw[List.mem_singleton] at hy;subst hy;exact q
theorem d1u {x y:Ex} (q:Wf x) (r:Wf y) {k o t n:Int} {s:B} {a:Option Addr} {c:Nat} (hk:0<=k/\k<=255) (ho:0<=o/\o<=255) (ht:0<=t/\t<=255) (hn:-2147483648<=n/\n<=2147483647) (hs:s.length<=140737488355328):Wf (.mk k o t n s a c [x,y]):=
 .mk hk ho ht hn hs fun z hz=>by
  rcases List.mem_cons.1 hz with rfl | hz
  ·exact q
  ·rw[List.mem_singleton] at hz
   subst hz;exact r
theorem a5j {k o t n:Int} {s:B} (hk:0<=k/\k<=255) (ho:0<=o/\o<=255) (ht:0<=t/\t<=255) (hn:-2147483648<=n/\n<=2147483647) (hs:s.length<=140737488355328):Wf (.mk k o t n s none 0 []):=
 .mk hk ho ht hn hs fun _ hx=>(List.not_mem_nil hx).elim
section
variable {m:View} (hg:Glob m) (b:Nat) (a:Option Addr) (c:Nat) (ts:List Tok)
abbrev INS (m:View) (b:Nat) (a:Option Addr) (c:Nat) (ts:List Tok) (f:Nat):Prop:=∀ (h:List Res) (k:Nat) (o s:B),Tks m h a c ts->k<=ts.length->PCX m 246 [.pointer (some ⟨b,0,none⟩),str o,str s] b a c ts k (32 - f) (X3 f o s (ts.drop k)) h
abbrev OPN (m:View) (b:Nat) (a:Option Addr) (c:Nat) (ts:List Tok) (f:Nat):Prop:=∀ (h:List Res) (k:Nat),Tks m h a c ts->k<=ts.length->PCX m 241 [.pointer (some ⟨b,0,none⟩)] b a c ts k (32 - f) (R1 (X3 f) (ts.drop k)) h
abbrev EXP (m:View) (b:Nat) (a:Option Addr) (c:Nat) (ts:List Tok) (f:Nat):Prop:=∀ (h:List Res) (k:Nat),Tks m h a c ts->k<=ts.length->PCX m 221 [.pointer (some ⟨b,0,none⟩)] b a c ts k (32 - f) (a1e (X3 f) (ts.drop k)) h
theorem d2w:INS m b a c ts 0:=by
 intro h k o s hk hkl;refine CX.body Tryz.call246 Tryz.func246 rfl Tryz.ntmps246 Lb rfl ?_;refine j0 ?_;refine xW fun b6=>?_
 refine kQ0 [0,1,2,6] ?_;refine kQ5 [0,1,2,6,12] ?_;refine wc (fun c12=>?_) fun c12=>?_
 replace c12:=I2 c12;refine kA1 ?_;refine xG (a0B b3T Et) ?_;refine WL.panic Et (a3J (P:=Tryz.prog) (fn:=Tryz.f246) (K1 b a c ts k 32::h) Vl Sb ?_);exact⟨_,_,_,rfl,rfl,rfl⟩;cases c12
include hg
theorem d3C {f:Nat} (hf:f < 32) (hE:EXP m b a c ts f):INS m b a c ts (f+1):=by
 intro h k o s hk hkl;have hq:X3 (f+1) o s (ts.drop k)=if C6 (ts.drop k)=D0 o then (match a1e (X3 f) (ts.drop (k+1)) with
  | .error e=>.error e
  | .ok (x,r)=>if C6 r=D0 s then .ok (x,r.tail) else .error 100) else .error 100:=by rw[<- a1r];rfl
 refine CX.body Tryz.call246 Tryz.func246 rfl Tryz.ntmps246 Lb rfl ?_;refine j0 ?_;refine xW fun b6=>?_
 refine kQ0 [0,1,2,6] ?_;refine kQ5 [0,1,2,6,12] ?_;refine wc (fun c12=>?_) fun c12=>?_
 replace c12:=I2 c12;omega;replace c12:=I0 c12;refine kQ0 [0,1,2,6] ?_;refine kA5 ?_;refine WL.val (v':=.int .i64 (32 - (f:Int))) (congrArg (Value.int .i64) (by omega)) ?_;refine kQ3 [0,1,2,6] ?_;refine kA2 ?_;refine xf (E1 Et) (a1z _ _ _) ?_;refine pD (K1 b a c ts k (32 - f)) ?_;refine A1 Ef (E2 Et Et) (b9y hg b a c ts k (32 - f) (D0 o) _ (hk.mono Sb) hkl) Lb (fun v hv hx=>?_) fun v25 h25 hr25=>?_
 ·obtain⟨hx1,rfl,rfl⟩:=hx
  rw[if_neg hx1] at hq;exact a3J (P:=Tryz.prog) (fn:=Tryz.f246) (K1 b a c ts k (32 - f)::h) Vl Sb ⟨_,_,_,hq,rfl,rfl⟩
 obtain⟨hn25,rfl⟩:=hr25;refine kQ0 [0,2,6] ?_;have hkl2:k < ts.length:=Z7 (by rw[hn25];exact(by decide:(5:Int)≠0));rw[if_pos hn25] at hq;refine kA1 ?_;refine A1 Ef (E1 Et) (hE _ (k+1) (hk.mono Sb) (by omega)) Lb (fun v hv hx=>?_) fun v27 h27 hr27=>?_
 ·obtain⟨e,k2,o2,hres,rfl,rfl⟩:=hx
  rw[hres] at hq;exact a3J (P:=Tryz.prog) (fn:=Tryz.f246) (K1 b a c ts k2 o2::h) Vl Sb ⟨_,_,_,hq,rfl,rfl⟩
 obtain⟨hp27,rfl,x,k2,t,bl,⟨hres,hk2⟩,rfl,⟨hst,hT,hW⟩,rfl⟩:=hr27;refine WL.perm (h':=K1 b a c ts k2 (32 - f)::.pt b6 _::(bl++h)) (List.Perm.cons _ List.perm_middle) ?_;rw[hres] at hq;refine xW fun b7=>?_
 refine kQ1 [0,2,6,7] ?_;refine kA2 ?_;refine xf (E1 Et) (a1z _ _ _) ?_;refine pD (K1 b a c ts k2 (32 - f)) ?_;refine A1 Ef (E2 Et Et) (b9y hg b a c ts k2 (32 - f) (D0 s) _ (hk.mono Sb) hk2) Lb (fun v hv hx=>?_) fun v31 h31 hr31=>?_
 ·obtain⟨hx1,rfl,rfl⟩:=hx
  replace hq:=hq.trans (if_neg hx1);exact a3J (P:=Tryz.prog) (fn:=Tryz.f246) (K1 b a c ts k2 (32 - f)::h) Vl Sb ⟨_,_,_,hq,rfl,rfl⟩
 obtain⟨hn31,rfl⟩:=hr31;refine kQ0 [0,6,7] ?_;have hkl3:k2 < ts.length:=Z7 (by rw[hn31];exact(by decide:(5:Int)≠0));replace hq:=hq.trans (if_pos hn31);rw[a1r] at hq;refine kA4 ?_;refine xG (a0I Et Ek (by omega)) ?_;refine WL.val (v':=.int .i64 (32 - ((f+1:Nat):Int))) (congrArg (Value.int .i64) (by omega)) ?_;refine kQ3 [6,7] ?_;refine kQ2 [6] ?_;refine xT (K1 b a c ts (k2+1:Nat) (32 - ((f+1:Nat):Int))::(bl++h)) (h1:=cA a3Z) ?_;exact⟨K1 b a c ts (k2+1:Nat) (32 - ((f+1:Nat):Int))::bl,rfl,x,k2+1,t,bl,⟨hq,by omega⟩,rfl,⟨hst,hT,hW⟩,rfl⟩
theorem opn {f:Nat} (hI:INS m b a c ts f) (htn:∀ k,(-2147483648<=(C6 (ts.drop k)).n/\(C6 (ts.drop k)).n<=2147483647)/\(C6 (ts.drop k)).text.length<=140737488355328):OPN m b a c ts f:=by
 intro h k hk hkl;obtain⟨t,ht⟩:∃ t,t=C6 (ts.drop k):=⟨_,rfl⟩;have hq:R1 (X3 f) (ts.drop k)=if t.kind=3 then .ok (sx 1 0 0 t.n [] [],ts.drop (k+1)) else if t.kind=4 then .ok (sx 2 0 0 t.n [] [],ts.drop (k+1))
  else if t=D4 [70,65,76,83,69] then .ok (sx 3 0 0 0 [] [],ts.drop (k+1)) else if t=D4 [84,82,85,69] then .ok (sx 3 0 0 1 [] [],ts.drop (k+1))
  else if t.kind=1 then (if C6 (ts.drop (k+1))=D0 [91] then (match X3 f [91] [93] (ts.drop (k+1)) with
   | .ok (x,r)=>.ok (sx 5 0 0 0 t.text [x],r)
   | .error e=>.error e) else .ok (sx 4 0 0 0 t.text [],ts.drop (k+1)))
  else if t=D0 [40] then X3 f [40] [41] (ts.drop k) else .error 100:=by rw[ht,<- a1r];rfl
 have hle:=hk.le;obtain⟨htn1,htx1⟩:=htn k;rw[<- ht] at htn1 htx1;refine CX.body Tryz.call241 Tryz.func241 rfl Tryz.ntmps241 Lb rfl ?_;refine j0 ?_;refine xW fun b2=>?_
 refine kQ0 [0,2] ?_;refine kA1 ?_;refine xf (E1 Et) (W6 hg b a c ts k (32 - f) _ Me (hk.mono Sb)) ?_;refine xW fun b3=>?_
 refine kA1 ?_;rw[<- ht];refine kQ0 [0,2,3] ?_;refine kQ4 [0,2,3,6] ?_;refine wc (fun c6=>?_) fun c6=>?_
 replace c6:=I2 c6;rw[if_pos c6] at hq;have hkl2:k < ts.length:=Z7 (by rw[<- ht,c6];decide);refine kQ8 [2,3] ?_;refine kQ4 [2] ?_;refine xT (K1 b a c ts (k+1:Nat) (32 - f)::h) (h1:=cA a3Z) ?_;exact⟨K1 b a c ts (k+1:Nat) (32 - f)::[],rfl,_,k+1,.mk 1 0 0 t.n [] none 0 [],[],⟨hq,by omega⟩,rfl,⟨rfl,a3W _ _ _ _ _ _ _,a5j (by omega) (by omega) (by omega) htn1 (Nat.zero_le _)⟩,rfl⟩;replace c6:=I0 c6;rw[if_neg c6] at hq;refine kQ4 [0,2,3,20] ?_;refine wc (fun c20=>?_) fun c20=>?_
 replace c20:=I2 c20;rw[if_pos c20] at hq;have hkl2:k < ts.length:=Z7 (by rw[<- ht,c20];decide);refine kQ8 [2,3] ?_;refine kQ4 [2] ?_;refine xT (K1 b a c ts (k+1:Nat) (32 - f)::h) (h1:=cA a3Z) ?_;exact⟨K1 b a c ts (k+1:Nat) (32 - f)::[],rfl,_,k+1,.mk 2 0 0 t.n [] none 0 [],[],⟨hq,by omega⟩,rfl,⟨rfl,a3W _ _ _ _ _ _ _,a5j (by omega) (by omega) (by omega) htn1 (Nat.zero_le _)⟩,rfl⟩;replace c20:=I0 c20;rw[if_neg c20] at hq;refine jE ?_;refine dS [1] (.op 0 (.op 1 .nil)) [2,3] F3 ?_;refine kA1 ?_;refine yf rfl (E1 Ek) (fun fr=>a0u hg _ (by decide) _) ?_;refine SR.nil rfl rfl ?_;refine xG (a2z K5 (by kernel_rfl) (by kernel_rfl) Et Et rfl) ?_;refine kQ1 [0,2,3,34] ?_;refine wc (fun c34=>?_) fun c34=>?_
 have d34:=a1E c34;rw[if_pos d34] at hq;have hkl2:k < ts.length:=Z7 (by rw[<- ht,d34];rcases a0M [70,65,76,83,69] with h | h <;> rw[h] <;> decide);refine kQ8 [2] ?_;refine kQ2 [2] ?_;refine xT (K1 b a c ts (k+1:Nat) (32 - f)::h) (h1:=cA a3Z) ?_;exact⟨K1 b a c ts (k+1:Nat) (32 - f)::[],rfl,_,k+1,.mk 3 0 0 0 [] none 0 [],[],⟨hq,by omega⟩,rfl,⟨rfl,a3W _ _ _ _ _ _ _,a5j (by omega) (by omega) (by omega) (by omega) (Nat.zero_le _)⟩,rfl⟩;have d34:=a1F c34;rw[if_neg d34] at hq;refine jE ?_;refine dS [1] (.op 0 (.op 1 .nil)) [2,3] F3 ?_;refine kA1 ?_;refine yf rfl (E1 Ek) (fun fr=>a0u hg _ (by decide) _) ?_;refine SR.nil rfl rfl ?_;refine xG (a2z K5 (by kernel_rfl) (by kernel_rfl) Et Et rfl) ?_;refine kQ1 [0,2,3,46] ?_;refine wc (fun c46=>?_) fun c46=>?_
 have d46:=a1E c46;rw[if_pos d46] at hq;have hkl2:k < ts.length:=Z7 (by rw[<- ht,d46];rcases a0M [84,82,85,69] with h | h <;> rw[h] <;> decide);refine kQ8 [2] ?_;refine kQ2 [2] ?_;refine xT (K1 b a c ts (k+1:Nat) (32 - f)::h) (h1:=cA a3Z) ?_;exact⟨K1 b a c ts (k+1:Nat) (32 - f)::[],rfl,_,k+1,.mk 3 0 0 1 [] none 0 [],[],⟨hq,by omega⟩,rfl,⟨rfl,a3W _ _ _ _ _ _ _,a5j (by omega) (by omega) (by omega) (by omega) (Nat.zero_le _)⟩,rfl⟩;have d46:=a1F c46;rw[if_neg d46] at hq;refine kQ4 [0,2,3,58] ?_;refine wc (fun c58=>?_) fun c58=>?_
 replace c58:=I2 c58;rw[if_pos c58] at hq;have hkl2:k < ts.length:=Z7 (by rw[<- ht,c58];decide);refine kQ8 [0,2,3] ?_;refine kA1 ?_;refine xf (E1 Et) (W6 hg b a c ts (k+1) (32 - f) _ Me (hk.mono Sb)) ?_;refine xf (E1 Ek) (a1z _ _ _) ?_;refine xG (a2z K5 (by kernel_rfl) (by kernel_rfl) Et Et rfl) ?_;refine kQ0 [0,2,3,72] ?_;refine wc (fun c72=>?_) fun c72=>?_
 have d72:=a1E c72;rw[if_pos d72] at hq;refine jE ?_;refine WC.take (r:=K1 b a c ts (k+1:Nat) (32 - f)) De ?_;refine H4 [3,4] (.op 0 (.op 1 (.op 2 (.op 3 (.op 4 .nil))))) [5,6] _ [_] F3 (fun _ _ _ _ _ h=>h) [] (by kernel_rfl) ?_;refine kA3 ?_;refine a3B rfl rfl Ef (E3 Et Ek Ek) (fun fr=>hI _ (k+1) [91] [93] (Tks.mono hk (a4c Sb fr)) (by omega)) Lb (fun fr v hv hx=>?_) fun v76 h76 hr76=>?_
 ·obtain⟨e,k2,o2,hres,rfl,rfl⟩:=hx
  rw[hres] at hq;exact a3J (P:=Tryz.prog) (fn:=Tryz.f241) (K1 b a c ts k2 o2::h) Vl (List.Sublist.cons_cons _ (a4c Sb fr)) ⟨_,_,_,hq,rfl,rfl⟩
 obtain⟨x,k2,tx,bl,⟨hres,hk2⟩,rfl,⟨hst,hT,hW⟩,rfl⟩:=hr76;rw[hres] at hq;refine sB rfl a1Q fun b77=>?_
 refine a4j (H:=K1 b a c ts k2 (32 - f)::.pt b77 (.cells (exE tx).toArray 35 (0,0))::.pt b3 (.cells (C1 t).toArray 106 (0,0))::.pt b2 (.cells (exE (.mk 0 0 0 0 [] none 0 [])).toArray 35 (0,0))::(bl++h)) rfl ((List.Perm.swap _ _ _).trans (((a1j bl [_,_] h).cons _).cons _)) ?_;refine kQ2 [2] ?_;refine xT (K1 b a c ts k2 (32 - f)::.pt b77 (.cells (exE tx).toArray 35 (0,0))::(bl++h)) (h1:=cA a3Z) ?_;exact⟨K1 b a c ts k2 (32 - f)::.pt b77 (.cells (exE tx).toArray 35 (0,0))::bl,rfl,_,k2,.mk 5 0 0 0 t.text (some ⟨b77,0,none⟩) 1 [tx],.pt b77 (.cells (exE tx).toArray 35 (0,0))::bl,⟨hq,hk2⟩,rfl,⟨by rw[<- hst];rfl,b4m hT b77 _ _ _ _ _,b8a hW (by omega) (by omega) (by omega) (by omega) htx1⟩,rfl⟩;have d72:=a1F c72;rw[if_neg d72] at hq;refine kQ0 [2,3] ?_;refine kQ4 [2] ?_;refine xT (K1 b a c ts (k+1:Nat) (32 - f)::h) (h1:=cA a3Z) ?_
 exact⟨K1 b a c ts (k+1:Nat) (32 - f)::[],rfl,_,k+1,.mk 4 0 0 0 t.text none 0 [],[],⟨hq,by omega⟩,rfl,⟨rfl,a3W _ _ _ _ _ _ _,a5j (by omega) (by omega) (by omega) (by omega) htx1⟩,rfl⟩;replace c58:=I0 c58;rw[if_neg c58] at hq;refine jE ?_;refine dS [1] (.op 0 (.op 1 .nil)) [2,3] F3 ?_;refine kA1 ?_;refine yf rfl (E1 Ek) (fun fr=>a1z _ _ _) ?_;refine SR.nil rfl rfl ?_;refine xG (a2z K5 (by kernel_rfl) (by kernel_rfl) Et Et rfl) ?_;refine kQ1 [0,2,82] ?_;refine wc (fun c82=>?_) fun c82=>?_
 have d82:=a1E c82;rw[if_pos d82] at hq;refine kA1 ?_;refine pD (K1 b a c ts k (32 - f)) ?_;refine A1 Ef (E3 Et Ek Ek) (hI _ k [40] [41] (hk.mono Sb) hkl) Lb (fun v hv hx=>?_) fun v87 h87 hr87=>?_
 ·obtain⟨e,k2,o2,hres,rfl,rfl⟩:=hx
  rw[hres] at hq;exact a3J (P:=Tryz.prog) (fn:=Tryz.f241) (K1 b a c ts k2 o2::h) Vl Sb ⟨_,_,_,hq,rfl,rfl⟩
 obtain⟨hp87,rfl,x,k2,tx,bl,⟨hres,hk2⟩,rfl,⟨hst,hT,hW⟩,rfl⟩:=hr87;refine WL.perm (h':=K1 b a c ts k2 (32 - f)::.pt b3 _::.pt b2 _::(bl++h)) ((a1j bl [_,_] h).cons _) ?_;rw[hres] at hq;refine kQ1 [2] ?_;refine xT (K1 b a c ts k2 (32 - f)::(bl++h)) (h1:=cA a3Z) ?_;exact⟨K1 b a c ts k2 (32 - f)::bl,rfl,x,k2,tx,bl,⟨hq,hk2⟩,rfl,⟨hst,hT,hW⟩,rfl⟩;have d82:=a1F c82;rw[if_neg d82] at hq;refine kQ0 [2] ?_;refine kA1 ?_;refine xG (a0B b3T Et) ?_;refine WL.panic Et (a3J (P:=Tryz.prog) (fn:=Tryz.f241) (K1 b a c ts k (32 - f)::h) Vl Sb ?_);exact⟨_,_,_,hq,rfl,rfl⟩
end
end
section
open Go.Eng Go.Xp Go
open Go.Ty (Tok C1 C5 Z8)
open Go.Lx (G3)
theorem c2v {m:View} (hg:Glob m) (b:Nat) (a:Option Addr) (c:Nat) (ts:List Tok) (k:Nat) (o:Int) (p z n:Nat) (t:Tok) (hn:z+1 - p=n) (ht:t=C6 (ts.drop k)) (hp:p<=z/\z<=100) (h0:p≠0) (h:List Res) (hk:Tks m h a c ts) (hkl:k<=ts.length) :
 CT Tryz.prog 242 [.pointer (some ⟨b,0,none⟩),.int .u8 p,.int .u8 z] (K1 b a c ts k o::h) m
  (fun v _ h'=>v=.int .u8 (opF t n p)/\h'=K1 b a c ts (if opF t n p=0 then k else k+1:Nat) o::h):=by
 subst hn ht;exact d2Q hg b a c ts k o p z hp h0 h hk hkl
theorem c4r {t:Tok} {i:Nat} (hi:i < 3) (hn:∀ j < i,t≠D4 (N3 ((j+1:Nat):Int))) (h:t=D4 (N3 ((i+1:Nat):Int))):a0O t=i+1:=by
 unfold a0O;match i,hi with
 | 0,_=>exact if_pos h
 | 1,_=>
  have n0:t≠D4 (N3 1):=hn 0 (by omega);rw[if_neg n0];exact if_pos h
 | 2,_=>
  have n0:t≠D4 (N3 1):=hn 0 (by omega);have n1:t≠D4 (N3 2):=hn 1 (by omega);rw[if_neg n0,if_neg n1];exact if_pos h
theorem c4T {t:Tok} (hn:∀ j < 3,t≠D4 (N3 ((j+1:Nat):Int))):a0O t=0:=by
 have n0:t≠D4 (N3 1):=hn 0 (by omega);have n1:t≠D4 (N3 2):=hn 1 (by omega);unfold a0O;rw[if_neg n0,if_neg n1];exact if_neg (hn 2 (by omega))
section
variable {m:View} (hg:Glob m) (b:Nat) (a:Option Addr) (c:Nat) (ts:List Tok)
include hg
theorem exp {f:Nat} (hO:OPN m b a c ts f) (htn:∀ k,(C6 (ts.drop k)).text.length<=140737488355328):EXP m b a c ts f:=by
 intro h k hk hkl;obtain⟨t,ht⟩:∃ t,t=C6 (ts.drop k):=⟨_,rfl⟩;have hq:a1e (X3 f) (ts.drop k)=if t=D4 [83,73,90,69] then (if (C6 (ts.drop (k+1))).kind=1 then .ok (sx 9 0 0 0 (C6 (ts.drop (k+1))).text [],ts.drop (k+1+1)) else .error 100)
  else if a0O t≠0 then unQ (fun x=>sx 8 0 (a0O t) 0 [] [x]) (R1 (X3 f) (ts.drop (k+1)))
  else if opF t 4 23≠0 then unQ (fun x=>sx 6 (opF t 4 23) 0 0 [] [x]) (R1 (X3 f) (ts.drop (k+1)))
  else match R1 (X3 f) (ts.drop k) with
   | .error e=>.error e
   | .ok (a,r)=>if opF (C6 r) 22 1≠0 then unQ (fun b=>sx 7 (opF (C6 r) 22 1) 0 0 [] [a,b]) (R1 (X3 f) r.tail) else .ok (a,r):=by
  rw[ht,<- a1r,<- a1r,<- a1r];rfl
 have hle:=hk.le;refine CX.body Tryz.call221 Tryz.func221 rfl Tryz.ntmps221 Lb rfl ?_;refine j0 ?_;refine xW fun b2=>?_
 refine kQ0 [0,2] ?_;refine kA1 ?_;refine xf (E1 Et) (W6 hg b a c ts k (32 - f) _ Me (hk.mono Sb)) ?_;refine xW fun b3=>?_
 refine kA1 ?_;rw[<- ht];refine kQ0 [0,2,3] ?_;refine dS [1] (.op 0 (.op 1 .nil)) [2] F3 ?_;refine kA1 ?_;refine yf rfl (E1 Ek) (fun fr=>a0u hg _ (by decide) _) ?_;refine SR.nil rfl rfl ?_;refine xG (a2z K5 (by kernel_rfl) (by kernel_rfl) Et Et rfl) ?_;refine kQ0 [0,2,3,13] ?_;refine wc (fun c13=>?_) fun c13=>?_
 have d13:=a1E c13;rw[if_pos d13] at hq;have hkl2:k < ts.length:=Z7 (by rw[<- ht,d13];rcases a0M [83,73,90,69] with h | h <;> rw[h] <;> decide);refine kQ8 [0,2,3] ?_;refine kA1 ?_;refine xf (E1 Et) (W6 hg b a c ts (k+1) (32 - f) _ Me (hk.mono Sb)) ?_;refine kQ1 [0,2,3] ?_;refine kQ3 [0,2,3,25] ?_;refine wc (fun c25=>?_) fun c25=>?_
 replace c25:=a2T c25;rw[if_neg c25] at hq;refine kA1 ?_;refine xG (a0B b3T Et) ?_;refine WL.panic Et (a3J (P:=Tryz.prog) (fn:=Tryz.f221) (K1 b a c ts (k+1:Nat) (32 - f)::h) Vl Sb ?_);exact⟨_,_,_,hq,rfl,rfl⟩;replace c25:=a2U c25;rw[if_pos c25] at hq;have hkl3:k+1 < ts.length:=Z7 (by rw[c25];decide);refine kQ0 [0,2,3] ?_;refine kQ8 [2,3] ?_;refine kQ4 [2] ?_;refine xT (K1 b a c ts (k+1+1:Nat) (32 - f)::h) (h1:=cA a3Z) ?_;exact⟨K1 b a c ts (k+1+1:Nat) (32 - f)::[],rfl,_,k+1+1,.mk 9 0 0 0 (C6 (ts.drop (k+1))).text none 0 [],[],⟨hq,by omega⟩,rfl,⟨rfl,a3W _ _ _ _ _ _ _,a5j (by omega) (by omega) (by omega) (by omega) (htn (k+1))⟩,rfl⟩;have d13:=a1F c13;rw[if_neg d13] at hq;refine kQ0 [0,2,3] ?_;refine xG (a6m c4Y rfl rfl rfl Eb (by exact rfl)) ?_;refine kQ1 [0,2,3,38,39] ?_
 refine C0 [0,2,3,38] rfl (fun μ F' h'=>∃ i:Nat,(i<=3/\∀ j < i,t≠D4 (N3 ((j+1:Nat):Int)))/\3 - i=μ/\F'=[(39,.int .i64 i)]/\.pt b3 (.cells (C1 t).toArray 106 (0,0))::.pt b2 (.cells (exE (.mk 0 0 0 0 [] none 0 [])).toArray 35 (0,0))::K1 b a c ts k (32 - f)::h=h') (3 - 0) [(39,.int .i64 0)] (h0:=.pt b3 (.cells (C1 t).toArray 106 (0,0))::.pt b2 (.cells (exE (.mk 0 0 0 0 [] none 0 [])).toArray 35 (0,0))::K1 b a c ts k (32 - f)::h) ?_ Sb ⟨0,⟨by omega,fun j hj=>absurd hj (Nat.not_lt_zero j)⟩,rfl,rfl,rfl⟩ ?_;exact Su;rintro _ _ _ ⟨i,⟨hi,hJ⟩,rfl,rfl,rfl⟩;refine C2 rfl ?_;refine kQ1 [0,2,3,38,39,40] ?_;refine wc (fun c40=>?_) fun c40=>?_
 replace c40:=dT c40;have hvi:([.int .u8 1,.int .u8 2,.int .u8 3]:List Value)[i]?=some (.int .u8 ((i+1:Nat):Int)):=by
  rcases(by omega:i=0\/i=1\/i=2) with rfl | rfl | rfl <;> rfl
 have hpl:=b7d ((i+1:Nat):Int);refine kQ0 [0,2,3,38,39] ?_;refine xG (b8e c4Y d1c rfl rfl Et Et rfl (by omega) hvi) ?_;refine kQ1 [0,2,3,5,38,39] ?_;refine dS [2,3] (.op 0 (.op 1 (.op 2 (.op 3 .nil)))) [4] F3 ?_;refine kA2 ?_;refine yf rfl (E1 Et) (fun fr=>b4w _ _ _) ?_;refine yf rfl (E1 Et) (fun fr=>a0u hg (N3 ((i+1:Nat):Int)) (by omega) _) ?_;refine SR.nil rfl rfl ?_;refine xG (a2z K5 (by kernel_rfl) (by kernel_rfl) Et Et rfl) ?_;refine kQ0 [0,2,3,5,38,39,46] ?_;refine wc (fun c46=>?_) fun c46=>?_
 have d46:=a1E c46;have hc3:=c4r (by omega) hJ d46;rw[hc3,if_pos (by omega)] at hq;have hkl2:k < ts.length:=Z7 (by rw[<- ht,d46];rcases a0M (N3 ((i+1:Nat):Int)) with h | h <;> rw[h] <;> decide);refine kQ8 [0,2,5] ?_;refine kA2 ?_;refine pD (K1 b a c ts (k+1:Nat) (32 - f)) ?_;refine A1 Ef (E1 Et) (hO _ (k+1) (hk.mono Sb) (by omega)) Lb (fun v hv hx=>?_) fun v56 h56 hr56=>?_
 ·obtain⟨e,k2,o2,hres,rfl,rfl⟩:=hx
  rw[hres] at hq;exact a3J (P:=Tryz.prog) (fn:=Tryz.f221) (K1 b a c ts k2 o2::h) Vl Sb ⟨_,_,_,hq,rfl,rfl⟩
 obtain⟨hp56,rfl,x,k2,tx,bl,⟨hres,hk2⟩,rfl,⟨hst,hT,hW⟩,rfl⟩:=hr56;refine WL.perm (h':=K1 b a c ts k2 (32 - f)::.pt b3 _::.pt b2 _::(bl++h)) ((a1j bl [_,_] h).cons _) ?_;rw[hres] at hq;refine xY a1Q Eb fun b57=>?_
 refine kA2 ?_;refine pD (K1 b a c ts k2 (32 - f)) ?_;refine kQ0 [2] ?_;refine xT (K1 b a c ts k2 (32 - f)::.pt b57 (.cells (exE tx).toArray 35 (0,0))::(bl++h)) (h1:=cA a3Z) ?_;exact⟨K1 b a c ts k2 (32 - f)::.pt b57 (.cells (exE tx).toArray 35 (0,0))::bl,rfl,_,k2,.mk 8 0 ((i+1:Nat):Int) 0 [] (some ⟨b57,0,none⟩) 1 [tx],.pt b57 (.cells (exE tx).toArray 35 (0,0))::bl,⟨hq,hk2⟩,rfl,⟨by rw[<- hst];rfl,b4m hT b57 _ _ _ _ _,b8a hW (by omega) (by omega) (by omega) (by omega) (Nat.zero_le _)⟩,rfl⟩;have d46:=a1F c46;have hJ2:∀ j < i+1,t≠D4 (N3 ((j+1:Nat):Int)):=fun j hj=>by
  rcases Nat.lt_succ_iff_lt_or_eq.1 hj with h | rfl
  ·exact hJ j h
  ·exact d46
 refine kQ0 [0,2,3,38,39] ?_;refine kA2 ?_;refine WL.nil (B1 (3 - (i+1)) [(39,.int .i64 (i+1))] (h'':=.pt b3 (.cells (C1 t).toArray 106 (0,0))::.pt b2 (.cells (exE (.mk 0 0 0 0 [] none 0 [])).toArray 35 (0,0))::K1 b a c ts k (32 - f)::h) (by omega) ?_ Su Sb ⟨i+1,⟨by omega,hJ2⟩,rfl,rfl,rfl⟩);exact Su;replace c40:=dF c40;have hc3:=c4T (t:=t) (fun j hj=>hJ j (by omega));rw[hc3,if_neg (by omega)] at hq;refine kQ0 [0,2] ?_;refine kA1 ?_;refine pD (K1 b a c ts k (32 - f)) ?_;refine xg (E3 Et Ek Ek) (c2v hg b a c ts k (32 - f) 23 26 4 t rfl ht (by decide) (by decide) _ (hk.mono Sb) hkl) ?_;rintro _ _ ⟨rfl,rfl⟩;refine kQ1 [0,2,6] ?_;refine kQ2 [0,2,6,63] ?_;refine wc (fun c63=>?_) fun c63=>?_
 replace c63:=a2T c63;have d63:opF t 4 23≠0:=by omega
 rw[if_pos d63] at hq;rw[if_neg d63];have hkl2:k < ts.length:=Z7 (by rw[<- ht];exact b2t d63);have hob:=b7L t 4 23 d63;refine kA2 ?_;refine A1 Ef (E1 Et) (hO _ (k+1) (hk.mono Sb) (by omega)) Lb (fun v hv hx=>?_) fun v66 h66 hr66=>?_
 ·obtain⟨e,k2,o2,hres,rfl,rfl⟩:=hx
  rw[hres] at hq;exact a3J (P:=Tryz.prog) (fn:=Tryz.f221) (K1 b a c ts k2 o2::h) Vl Sb ⟨_,_,_,hq,rfl,rfl⟩
 obtain⟨hp66,rfl,x,k2,tx,bl,⟨hres,hk2⟩,rfl,⟨hst,hT,hW⟩,rfl⟩:=hr66;refine WL.perm (h':=K1 b a c ts k2 (32 - f)::.pt b3 _::.pt b2 _::(bl++h)) ((a1j bl [_,_] h).cons _) ?_;rw[hres] at hq;refine xY a1Q Eb fun b67=>?_
 refine kA2 ?_;refine pD (K1 b a c ts k2 (32 - f)) ?_;refine kQ0 [2] ?_;refine xT (K1 b a c ts k2 (32 - f)::.pt b67 (.cells (exE tx).toArray 35 (0,0))::(bl++h)) (h1:=cA a3Z) ?_;exact⟨K1 b a c ts k2 (32 - f)::.pt b67 (.cells (exE tx).toArray 35 (0,0))::bl,rfl,_,k2,.mk 6 (opF t 4 23) 0 0 [] (some ⟨b67,0,none⟩) 1 [tx],.pt b67 (.cells (exE tx).toArray 35 (0,0))::bl,⟨hq,hk2⟩,rfl,⟨by rw[<- hst];rfl,b4m hT b67 _ _ _ _ _,b8a hW (by omega) (by omega) (by omega) (by omega) (Nat.zero_le _)⟩,rfl⟩;replace c63:=a2U c63;have d63:opF t 4 23=0:=by omega
 rw[if_neg (by omega)] at hq;rw[if_pos d63];refine kQ0 [0,2] ?_;refine kA1 ?_;refine A1 Ef (E1 Et) (hO _ k (hk.mono Sb) hkl) Lb (fun v hv hx=>?_) fun v70 h70 hr70=>?_
 ·obtain⟨e,k2,o2,hres,rfl,rfl⟩:=hx
  rw[hres] at hq;exact a3J (P:=Tryz.prog) (fn:=Tryz.f221) (K1 b a c ts k2 o2::h) Vl Sb ⟨_,_,_,hq,rfl,rfl⟩
 obtain⟨hp70,rfl,x,k2,tx,bl,⟨hres,hk2⟩,rfl,⟨hst,hT,hW⟩,rfl⟩:=hr70;refine WL.perm (h':=K1 b a c ts k2 (32 - f)::.pt b3 _::.pt b2 _::(bl++h)) ((a1j bl [_,_] h).cons _) ?_;rw[hres] at hq;refine xW fun b7=>?_
 refine kQ1 [0,2,7] ?_;refine kA1 ?_;refine pD (K1 b a c ts k2 (32 - f)) ?_;obtain⟨t2,ht2⟩:∃ t2,t2=C6 (ts.drop k2):=⟨_,rfl⟩;replace hq:=hq.trans (show _=if opF (C6 (ts.drop k2)) 22 1≠0 then unQ (fun b=>sx 7 (opF (C6 (ts.drop k2)) 22 1) 0 0 [] [x,b]) (R1 (X3 f) (ts.drop k2).tail) else .ok (x,ts.drop k2) from rfl);rw[<- ht2,a1r] at hq;refine xg (E3 Et Ek Ek) (c2v hg b a c ts k2 (32 - f) 1 22 22 t2 rfl ht2 (by decide) (by decide) _ (hk.mono Sb) hk2) ?_;rintro _ _ ⟨rfl,rfl⟩;refine kQ1 [0,2,7,8] ?_;refine kQ2 [0,2,7,8,74] ?_;refine wc (fun c74=>?_) fun c74=>?_
 replace c74:=a2T c74;have d74:opF t2 22 1≠0:=by omega
 rw[if_pos d74] at hq;rw[if_neg d74];have hkl4:k2 < ts.length:=Z7 (by rw[<- ht2];exact b2t d74);have hob:=b7L t2 22 1 d74;refine jE ?_;refine H4 [3] (.op 0 (.op 1 (.op 2 (.op 3 .nil)))) [4,5,6] _ [_] F3 (fun _ _ _ _ _ h=>h) [0] (by kernel_rfl) ?_;refine kA3 ?_;refine a3B rfl rfl Ef (E1 Et) (fun fr=>hO _ (k2+1) (Tks.mono hk (a4c Sb fr)) (by omega)) Lb (fun fr v hv hx=>?_) fun v78 h78 hr78=>?_
 ·obtain⟨e,k3,o2,hres2,rfl,rfl⟩:=hx
  rw[hres2] at hq;exact a3J (P:=Tryz.prog) (fn:=Tryz.f221) (K1 b a c ts k3 o2::h) Vl (List.Sublist.cons_cons _ (a4c Sb fr)) ⟨_,_,_,hq,rfl,rfl⟩
 obtain⟨y,k3,ty,bl2,⟨hres2,hk3⟩,rfl,⟨hst2,hT2,hW2⟩,rfl⟩:=hr78;rw[hres2] at hq;refine a4j (H:=K1 b a c ts k3 (32 - f)::.pt b7 (.cells (exE tx).toArray 35 (0,0))::.pt b3 (.cells (C1 t).toArray 106 (0,0))::.pt b2 (.cells (exE (.mk 0 0 0 0 [] none 0 [])).toArray 35 (0,0))::((bl2++bl)++h)) rfl (by rw[List.append_assoc];exact(a1j bl2 [_,_,_] (bl++h)).cons _) ?_;refine xY a1Q Eb fun b79=>?_
 refine kA2 ?_;refine pD (K1 b a c ts k3 (32 - f)) ?_;refine kQ0 [2] ?_;refine xT (K1 b a c ts k3 (32 - f)::.pt b79 (.cells (exE tx++exE ty).toArray 35 (0,0))::((bl2++bl)++h)) (h1:=cA a3Z) ?_;exact⟨K1 b a c ts k3 (32 - f)::.pt b79 (.cells (exE tx++exE ty).toArray 35 (0,0))::(bl2++bl),rfl,_,k3,.mk 7 (opF t2 22 1) 0 0 [] (some ⟨b79,0,none⟩) 2 [tx,ty],.pt b79 (.cells (exE tx++exE ty).toArray 35 (0,0))::(bl2++bl),⟨hq,hk3⟩,rfl,⟨by rw[<- hst,<- hst2];rfl,c6p hT hT2 b79 _ _ _ _ _,d1u hW hW2 (by omega) (by omega) (by omega) (by omega) (Nat.zero_le _)⟩,rfl⟩;replace c74:=a2U c74;have d74:opF t2 22 1=0:=by omega
 rw[if_neg (by omega)] at hq;rw[if_pos d74];refine kQ0 [2,7] ?_;refine kQ2 [2] ?_;refine xT (K1 b a c ts k2 (32 - f)::(bl++h)) (h1:=cA a3Z) ?_;exact⟨K1 b a c ts k2 (32 - f)::bl,rfl,x,k2,tx,bl,⟨hq,hk2⟩,rfl,⟨hst,hT,hW⟩,rfl⟩
end
theorem c5O {m:View} (hg:Glob m) (b:Nat) (a:Option Addr) (c:Nat) (ts:List Tok) (htn:∀ k,(-2147483648<=(C6 (ts.drop k)).n/\(C6 (ts.drop k)).n<=2147483647)/\(C6 (ts.drop k)).text.length<=140737488355328) :
 ∀ f,f<=32->INS m b a c ts f/\EXP m b a c ts f
 | 0,_=>⟨d2w b a c ts,exp hg b a c ts (opn hg b a c ts (d2w b a c ts) htn) fun k=>(htn k).2⟩
 | f+1,hf=>by
  have ih:=c5O hg b a c ts htn f (by omega);have hI:=d3C hg b a c ts (by omega) ih.2;exact⟨hI,exp hg b a c ts (opn hg b a c ts hI htn) fun k=>(htn k).2⟩
end
section
open Go.Eng Go.Xp Go
open Go.Ty (Tok C1 C5 Z8)
open Go.Lx (G3)
abbrev ptV (b:Nat):Value:=.pointer (some ⟨b,0,none⟩)
theorem b9a (b0 b1 b2:Nat) (h:List Res) (m:View):b2M Tryz.prog 220 [ptV b0,ptV b1,ptV b2] .returning m h h:=by
 refine b0l Tryz.func220 rfl rfl Tryz.ntmps220 Lb rfl Lb Lb (b6k rfl) rfl ?_;refine kA1 ?_;refine xG (b1f c3P Et rfl) ?_;refine kQ0 [0,1,2,3,8] ?_;refine wc (fun c8=>?_) fun c8=>?_
 cases c8;refine WC.skip (b0u (h2:=h) (.inr rfl) rfl Sb)
abbrev r3 (b0 b1 b2:Nat) (e:Ex) (k n:Int) (h:List Res):List Res:=.pt b0 (.cells (exE e).toArray 35 (0,0))::.pt b1 (.cells [Value.int .i64 k].toArray 3 (0,0))::.pt b2 (.cells [Value.int .i64 n].toArray 53 (0,0))::h
theorem c8o (b0 b1 b2:Nat) (h:List Res) (m:View) (x:Ex) (k n e:Int):b2M Tryz.prog 220 [ptV b0,ptV b1,ptV b2] (.panicking [{ v:=c2X e,recovered:=false }]) m (r3 b0 b1 b2 x k n h) (r3 b0 b1 b2 A0 0 e h):=by
 refine b0l Tryz.func220 rfl rfl Tryz.ntmps220 Lb rfl Lb Lb b7u (b0G _) ?_;refine kA1 ?_;refine xG (b0I c3P Et rfl) ?_;refine kQ0 [0,1,2,3,8] ?_;refine wc (fun c8=>?_) fun c8=>?_
 refine kA1 ?_;refine xG (a5G b3T Et) ?_;refine kA3 ?_;refine xW fun b4=>?_
 refine kQ2 [0,1,2,3,4,5] ?_;refine kQ2 [0,1,2,3,4,15] ?_;refine wc (fun c15=>?_) fun c15=>?_
 cases c15;refine WC.skip (kp [0,1,2,4] ?_);refine jE ?_;refine WC.take (r:=.pt b1 _) De ?_;refine WC.take (r:=.pt b0 _) De ?_;refine H4 [3,4] (.op 0 (.op 1 (.op 2 (.op 3 (.op 4 .nil))))) [5] _ [_,_] F3 (fun _ _ _ _ _ h=>absurd h.1 (by rintro (q | q) <;> cases q)) [] (by kernel_rfl) ?_;refine yG rfl (PO.build a3Z rfl rfl rfl EvP.nil rfl) ?_;refine kA2 ?_;refine SR.store rfl rfl rfl Et Et rfl rfl rfl rfl Up ?_;refine SR.store rfl rfl rfl Et Ek rfl rfl rfl rfl Up ?_;refine SR.nil rfl rfl ?_;refine kA1 ?_;refine WL.nil (b0u (h2:=r3 b0 b1 b2 A0 0 e h) (.inr rfl) rfl Sb);cases c8
theorem _root_.Go.Eng.WC.noPan {P:Program} {c:Code} {Q:Exit->Act->World->Prop} {n:Cx} {F:Fm} {h:List Res} {m:View} (k:WC P c (noPan Q) n F h m):WC P c Q n F h m:=
 .mk fun a w ha hs=>wpIn_mono (k.e a w ha hs) fun e _ _ q=>by cases e <;> first | exact q | exact(q:False).elim
theorem front_of {ts:List Tok} {x:Ex} {k:Nat} (h:a1e (X3 32) ts=.ok (x,ts.drop k)) (hk:k<=ts.length):K7 ts=if E9 x then .ok (x,k) else .error 3:=by
 have h2:a5M ts=.ok (x,ts.drop k):=h;unfold K7;rw[h2];show(if E9 x then Except.ok (x,ts.length - (ts.drop k).length) else .error 3)=_;rw[List.length_drop,show ts.length - (ts.length - k)=k by omega]
theorem front_ct {m:View} (hg:Glob m) (a:Option Addr) (c:Nat) (ts:List Tok) (h:List Res) (hk:Tks m h a c ts) (htn:∀ k,(-2147483648<=(C6 (ts.drop k)).n/\(C6 (ts.drop k)).n<=2147483647)/\(C6 (ts.drop k)).text.length<=140737488355328) :
 CT Tryz.prog 168 [.slice a ts.length c] h m (fun v _ h'=>(∃ (x:Ex) (k:Nat) (t:Ex) (bl:List Res),(K7 ts=.ok (x,k)/\k<=ts.length)/\v=.tuple #[exV t,.int .i64 k,.int .i64 0]/\(B2 t=x/\TOk m bl t/\Wf t)/\h'=bl++h) \/
  (∃ e:Int,K7 ts=.error e/\v=.tuple #[exV A0,.int .i64 0,.int .i64 e]/\h'=h)):=by
 have hE:=(c5O hg · a c ts htn 32 (by omega));refine CT.bodyD Tryz.call168 Tryz.func168 rfl Tryz.ntmps168 Lb rfl ?_;refine j0 ?_;refine xW fun b2=>?_
 refine xW fun b3=>?_
 refine xW fun b4=>?_
 refine wn [0,2,3,4] ?_;refine jE ?_;refine b1O rfl fun ops hG=>?_
 refine WY.po rfl (PO.makeFunc Evs.nil (E3 Et Et Et)) Lb ?_;refine WY.defer rfl Et ?_;refine kp [0,2,3,4] ?_;refine kA2 ?_;refine xX fun b9=>?_
 refine kQ1 [2,3,4,5] ?_;refine kA1 ?_;refine A1 Ef (E1 Et) ((hE b9).2 _ 0 (hk.mono Sb) (by omega)) Lb (fun v hv hx=>?_) fun v11 h11 hr11=>?_
 ·obtain⟨e,k2,o2,hres,rfl,rfl⟩:=hx
  intro a1 w1 ha1 hs1;have hs2:St m (r3 b2 b3 b4 A0 0 0 h) w1:=(hs1.sub (List.sublist_cons_self _ _)).perm ((List.perm_middle (l₁:=[_,_])).trans ((List.Perm.swap _ _ _).cons _));have hfe:K7 ts=.error e:=by
   have h2:a5M ts=.error e:=hres;unfold K7;rw[h2]
  exact d2p (P:=Tryz.prog) (fn:=Tryz.f168) (h':=h) rfl Tryz.call220 (c8o b2 b3 b4 h m A0 0 0 e) rfl (L9 a3Z rfl rfl rfl Me rfl) (a1g uu3 rfl rfl Me rfl) (a1g c0M rfl rfl Me rfl) Vl Sb (.inr ⟨e,hfe,rfl,rfl⟩) a1 w1 ha1 hs2
 obtain⟨hp11,rfl,x,k2,tx,bl,⟨hres,hk2⟩,rfl,⟨hst,hT,hW⟩,rfl⟩:=hr11;refine WL.perm (h':=K1 b9 a c ts k2 (32 - (32:Nat))::.pt b4 _::.pt b3 _::.pt b2 _::(bl++h)) ((a1j bl [_,_,_] h).cons _) ?_;have hfr:=front_of hres hk2;refine kQ1 [2,3,4,5] ?_;refine kA1 ?_;refine xf (E1 Et) (may_ct hg tx _ (hT.mono ((List.sublist_append_left bl h).trans Sb)) hW) ?_;refine kQ1 [2,3,4,5,14] ?_;refine wc (fun c14=>?_) fun c14=>?_
 have d14:E9 x=false:=by rw[<- hst,P8];simpa using c14
 rw[d14] at hfr;refine kQ4 [2,3,4] ?_;refine WC.ret (c9e (h':=h) (.inl rfl) rfl Tryz.call220 (b9a _ _ _ _ _) rfl (L9 a3Z rfl rfl rfl Me rfl) (a1g uu3 rfl rfl Me rfl) (a1g c0M rfl rfl Me rfl) Vl Sb ?_);exact .inr ⟨3,hfr,rfl,rfl⟩;have d14:E9 x=true:=by rw[<- hst,P8];simpa using c14
 rw[d14] at hfr;refine WC.skip (kp [2,3,4,5] ?_);refine jE ?_;refine WC.noPan ?_;refine WC.take (r:=.pt b2 _) De ?_;refine H4 [0,5] (.op 1 (.op 2 (.op 3 (.op 4 (.op 0 (.op 5 .nil)))))) [6,7] _ [_] F3 (fun _ _ _ _ _ h=>h) [] (by kernel_rfl) ?_;refine kA4 ?_;refine b8g rfl rfl (fun fr=>U2 a3Z rfl rfl Et (List.mem_append_right _ Me) rfl) Lb ?_;refine SR.store rfl rfl rfl Et Et rfl rfl rfl rfl Up ?_;refine SR.nil rfl rfl ?_;refine kQ2 [2,3,4] ?_;refine WC.ret (c9e (h':=bl++h) (.inl rfl) rfl Tryz.call220 (b9a _ _ _ _ _) rfl (L9 a3Z rfl rfl rfl Me rfl) (a1g uu3 rfl rfl Me rfl) (a1g c0M rfl rfl Me rfl) Vl Sb ?_);exact .inl ⟨x,k2,tx,bl,⟨hfr,hk2⟩,rfl,⟨hst,hT,hW⟩,rfl⟩
theorem b4e {m:View} (hg:Glob m) (a:Option Addr) (c:Nat) (ts:List Tok) (h:List Res) (hk:Tks m h a c ts) (htn:∀ t ∈ ts,-2147483648<=t.n/\t.n<=2147483647) :
 CT Tryz.prog 168 [.slice a ts.length c] h m (fun v _ h'=>∃ (t:Ex) (bl:List Res),v=.tuple #[exV t,.int .i64 (a2b ts:Nat),.int .i64 (a7N ts)]/\(B2 t=b0H ts/\TOk m bl t/\Wf t)/\h'=bl++h):=by
 have hz:∀ k,(-2147483648<=(C6 (ts.drop k)).n/\(C6 (ts.drop k)).n<=2147483647)/\(C6 (ts.drop k)).text.length<=140737488355328:=fun k=>by
  cases hd:ts.drop k with
  | nil=>exact⟨by decide,by decide⟩
  | cons u r=>
   have hu:u ∈ ts:=List.mem_of_mem_drop (by rw[hd];exact List.Mem.head _);rw[a3k];split
   ·exact⟨htn u hu,hk.tx u hu⟩
   ·exact⟨by decide,by decide⟩
 have h1:=front_ct hg a c ts h hk hz;refine⟨h1.enter,fun w hs=>Calls.mono (h1.calls w hs) ?_⟩;rintro e w' ⟨v,m',h',rfl,hle,hst,⟨x,k,t,bl,⟨hf,hk2⟩,rfl,hT,rfl⟩ | ⟨er,hf,rfl,rfl⟩⟩
 ·exact⟨_,m',_,rfl,hle,hst,t,bl,by unfold a2b a7N;rw[hf],by unfold b0H;rw[hf];exact hT,rfl⟩
 ·exact⟨_,m',_,rfl,hle,hst,A0,[],by unfold a2b a7N;rw[hf];rfl,by unfold b0H;rw[hf];exact⟨rfl,a3W _ _ _ _ _ _ _,a5j (by omega) (by omega) (by omega) (by omega) (Nat.zero_le _)⟩,rfl⟩
theorem c7q {m:View} {f:FuncId} {e:Ex} {h:List Res} (c:CT Tryz.prog f [exV e] h m (fun v _ h'=>(E9 e=true/\∃ a c,v=.tuple #[.slice a (B0 e).length c,.int .i64 0]/\h'=.row (.slice a (B0 e).length c) 106 4 (B0 e).length (fl C1 (B0 e))::h)\/(E9 e=false/\v=.tuple #[.slice none 0 0,.int .i64 2]/\h'=h))) :
 CT Tryz.prog f [exV e] h m (fun v _ h'=>∃ a c,v=.tuple #[.slice a (B8 e).length c,.int .i64 (b4R e)]/\h'=.row (.slice a (B8 e).length c) 106 4 (B8 e).length (fl C1 (B8 e))::h):=by
 refine⟨c.enter,fun w hs=>Calls.mono (c.calls w hs) ?_⟩;rintro _ w' ⟨v,m',h',rfl,hle,hst,⟨hm,a,c,rfl,rfl⟩ | ⟨hm,rfl,rfl⟩⟩
 ·exact⟨_,m',_,rfl,hle,hst,a,c,by unfold B8 b4R;rw[hm];rfl,by unfold B8;rw[hm];rfl⟩
 ·exact⟨_,m',_,rfl,hle,hst.addNil 106 4,none,0,by unfold B8 b4R;rw[hm];rfl,by unfold B8;rw[hm];rfl⟩
theorem c6s {m:View} (hg:Glob m) (e:Ex) (h:List Res) (hT:TOk m h e) (hW:Wf e):CT Tryz.prog 129 [exV e] h m (fun v _ h'=>∃ a c,v=.tuple #[.slice a (B8 e).length c,.int .i64 (b4R e)]/\h'=.row (.slice a (B8 e).length c) 106 4 (B8 e).length (fl C1 (B8 e))::h):=c7q (tokens_ct hg e h hT hW)
end
end Go.Proofs.YtkemgjnejlkkcaaGreatDoor
namespace Go.Proofs.YtkemgjnejlkkcaaGreatDoor.Ty9
section
open Go.Eng Go.Lx Go.Ty
def W3 (h:List Res) (k:Int):Value->View->List Res->Prop:=A9 h (.tuple #[str (wordS k).1,.int .i64 (wordS k).2.1,.bool (wordS k).2.2])
theorem b1h {i:Nat} {p:Pm} (hp:prims[i]?=some p):((fl c3L prims).drop (i * 3)).take 3=c3L p:=by
 match i,hp with
 | 0,hp=>cases hp;rfl
 | 1,hp=>cases hp;rfl
 | 2,hp=>cases hp;rfl
theorem b0k (k:Int) (h:List Res) (m:View) (hg:Glob m):CT Tryz.prog 182 [.int .u8 k] h m (W3 h k):=by
 refine CT.body Tryz.call182 Tryz.func182 rfl Tryz.ntmps182 Lb rfl ?_;refine kQ3 [0] ?_;refine xG (L2 (vs:=fl c3L prims) a9Z rfl rfl Ev.global rfl (fun j v hj=>by rw[Nat.zero_add];exact hg.prim j v hj)) ?_;refine kQ1 [0,7,8] ?_;refine C0 [0,7] rfl (fun μ F' h'=>∃ i:Nat,(i<=3/\wordS k=wordIn k (prims.drop i))/\3 - i=μ/\F'=[(8,.int .i64 i)]/\h=h') (3 - 0) [(8,.int .i64 0)] (h0:=h) ?_ Sb ⟨0,⟨by omega,rfl⟩,rfl,rfl,rfl⟩ ?_;exact Su;rintro _ _ _ ⟨i,⟨hk,hJ⟩,rfl,rfl,rfl⟩;refine C2 rfl ?_;refine kQ1 [0,7,8,9] ?_;refine wc (fun c9=>?_) fun c9=>?_
 replace c9:=dT c9;obtain⟨p,hp⟩:=A5 (l:=prims) (k:=i) (by show i < 3;omega);rw[b6d k hp] at hJ;refine kQ0 [0,7,8] ?_;refine xG (a9k (sz:=3) (q:=i) a9Z b6e rfl rfl Et Et rfl (by omega) (b1h hp)) ?_;refine xW fun b6=>?_
 refine kQ1 [0,6,7,8] ?_;refine kQ4 [0,6,7,8,14] ?_;refine wc (fun c14=>?_) fun c14=>?_
 rw[c14] at hJ;refine jE ?_;refine dS [] (.op 0 (.op 1 (.op 2 (.op 3 (.op 4 .nil))))) [5,6] F3 ?_;refine kA4 ?_;refine yG rfl (PO.assign Et) ?_;refine SR.nil rfl rfl ?_;refine kQ2 [2,3,4] ?_;refine WC.ret (b2K (h':=h) (.inl rfl) rfl (RV.tmp rfl) (RV.tmp rfl) (RV.tmp rfl) Vl Sb ?_);exact⟨by rw[hJ];rfl,rfl⟩;rw[c14] at hJ;refine kQ0 [0,7,8] ?_;refine kA2 ?_;refine WL.nil (B1 (3 - (i+1)) [(8,.int .i64 (i+1))] (h'':=h) (by omega) ?_ Su Sb ⟨i+1,⟨by omega,by simpa using hJ⟩,rfl,rfl,rfl⟩);exact Su;replace c9:=dF c9;rw[List.drop_eq_nil_of_le (by show 3<=i;omega)] at hJ;refine kQ0 [] ?_;refine kQ3 [2,3,4] ?_;refine WC.ret (b2K (h':=h) (.inl rfl) rfl (RV.tmp rfl) (RV.tmp rfl) (RV.tmp rfl) Vl Sb ?_);exact⟨by rw[hJ];rfl,rfl⟩
theorem a4J (k:Int) (h:List Res) (m:View) (hg:Glob m):CT Tryz.prog 192 [.int .u8 k] h m (A9 h (.bool (is k))):=by
 refine CT.body Tryz.call192 Tryz.func192 rfl Tryz.ntmps192 Lb rfl ?_;refine kQ1 [0] ?_;refine kA1 ?_;refine xf (E1 Et) (b0k _ _ _ hg) ?_;refine kQ7 [5] ?_;refine kQ2 [2] ?_;refine wT h ?_;exact⟨rfl,rfl⟩
theorem may_ct (t:Ty) (h:List Res) (m:View) (hg:Glob m) (hs:t.proto.length<=9223372036854775807):CT Tryz.prog 147 [tyV t] h m (A9 h (.bool (may t))):=by
 refine CT.body Tryz.call147 Tryz.func147 rfl Tryz.ntmps147 Lb rfl ?_;refine j0 ?_;refine xX fun b1=>?_
 refine kQ1 [1] ?_;refine kQ9 [1,3] ?_;refine wc (fun c3=>?_) fun c3=>?_
 have d3:far t=true:=c3;refine kQ1 [2] ?_;refine wT h ?_;exact⟨by unfold may;rw[d3];rfl,rfl⟩;have d3:far t=false:=c3;refine kA2 ?_;refine xf (E1 Et) (a4J _ _ _ hg) ?_;refine kQ1 [1,12] ?_;refine wc (fun c12=>?_) fun c12=>?_
 refine kA6 ?_;refine zG (fun hc=>R6 (Eg hc) Ek) ?_;refine kQ2 [2] ?_;refine wT h ?_;exact⟨by unfold may;rw[d3,c12];rfl,rfl⟩;refine kQ4 [1,24] ?_;refine wc (fun c24=>?_) fun c24=>?_
 refine kA2 ?_;refine xG (a2z b4O (by kernel_rfl) (by kernel_rfl) Et Et rfl) ?_;refine kQ1 [2] ?_;refine wT h ?_;exact⟨by unfold may;rw[d3,c12,c24];rfl,rfl⟩;refine kQ4 [1,31] ?_;refine wc (fun c31=>?_) fun c31=>?_
 refine kA2 ?_;refine xf (E1 Et) (a1Z _ _ _ hg (by assumption)) ?_;refine kQ1 [2] ?_;refine wT h ?_;exact⟨by unfold may;rw[d3,c12,c24,c31];rfl,rfl⟩;refine kQ0 [1] ?_;refine kA2 ?_;refine xf (E1 Et) (a4J _ _ _ hg) ?_;refine kA3 ?_;refine zG (fun hc=>R6 (Eg hc) Ek) ?_;refine kQ2 [2] ?_;refine wT h ?_;exact⟨by unfold may;rw[d3,c12,c24,c31];rfl,rfl⟩
theorem c1h (k:Int) (h:List Res) (m:View) (hg:Glob m):CT Tryz.prog 233 [.int .u8 k] h m (A9 h (.bool (!is k))):=by
 refine CT.body Tryz.call233 Tryz.func233 rfl Tryz.ntmps233 Lb rfl ?_;refine kQ1 [0] ?_;refine kA1 ?_;refine xf (E1 Et) (a4J _ _ _ hg) ?_;refine kQ2 [2] ?_;refine wT h ?_;exact⟨rfl,rfl⟩
theorem c7O (q:FuncId) (pr:Int->Bool) (a:Option Addr) (k c:Nat) (l:List Int) (h:List Res) (m:View) (hq:∀ x,CT Tryz.prog q [.int .u8 x] h m (A9 h (.bool (pr x)))) (hs:Rd m h a k c 1 (fl Q3 l)) :
 CT Tryz.prog 245 [.slice a k c,.func (.func q) #[] #[]] h m (A9 h (.int .i64 (idxF pr l 0))):=by
 have hl:=hs.lenF F1 (by decide);have hmx:=hs.mx;have hle:=hs.le;refine CT.body Tryz.call245 Tryz.func245 rfl Tryz.ntmps245 Lb rfl ?_;refine kQ1 [0,1] ?_;refine kQ3 [0,1,7,8] ?_;refine C0 [0,1,7] rfl (fun μ F' h'=>∃ j:Nat,(j<=k/\idxF pr l 0=idxF pr (l.drop j) j)/\k - j=μ/\F'=[(8,.int .i64 j)]/\h=h') (k - 0) [(8,.int .i64 0)] (h0:=h) ?_ Sb ⟨0,⟨by omega,rfl⟩,rfl,rfl,rfl⟩ ?_;exact Su;rintro _ _ _ ⟨j,⟨hk,hJ⟩,rfl,rfl,rfl⟩;refine C2 rfl ?_;refine kQ1 [0,1,7,8,9] ?_;refine wc (fun c9=>?_) fun c9=>?_
 replace c9:=dT c9;obtain⟨x,hx⟩:=A5 (l:=l) (k:=j) (by omega);rw[idxF_drop pr hx] at hJ;refine kQ0 [0,1,7,8] ?_;refine kQ2 [0,1,5,7,8] ?_;refine kA5 ?_;refine Q9 (Ev.tmp rfl) (E1 (Ev.tmp rfl)) (hq x) Lb ?_;refine kQ0 [0,1,5,7,8,16] ?_;refine wc (fun c16=>?_) fun c16=>?_
 rw[c16] at hJ;refine kQ2 [4] ?_;refine wT h ?_;exact⟨by rw[hJ];rfl,rfl⟩;rw[c16] at hJ;refine kQ0 [0,1,7,8] ?_;refine kA2 ?_;refine WL.nil (B1 (k - (j+1)) [(8,.int .i64 (j+1))] (h'':=h) (by omega) ?_ Su Sb ⟨j+1,⟨by omega,by simpa using hJ⟩,rfl,rfl,rfl⟩);exact Su;replace c9:=dF c9;rw[List.drop_eq_nil_of_le (by omega)] at hJ;refine kQ0 [] ?_;refine kQ1 [4] ?_;refine wT h ?_;exact⟨by rw[hJ];rfl,rfl⟩
theorem c7w (q:FuncId) (pr:Int->Bool) (a:Option Addr) (k c:Nat) (l:List Int) (h:List Res) (m:View) (hq:∀ x,CT Tryz.prog q [.int .u8 x] h m (A9 h (.bool (pr x)))) (hs:Rd m h a k c 1 (fl Q3 l)) :
 CT Tryz.prog 232 [.slice a k c,.func (.func q) #[] #[]] h m (A9 h (.bool (l.any pr))):=by
 refine CT.body Tryz.call232 Tryz.func232 rfl Tryz.ntmps232 Lb rfl ?_;refine kQ1 [0,1] ?_;refine kA2 ?_;refine xf (E2 Et Et) (c7O q pr _ _ _ l _ _ hq hs) ?_;refine kQ2 [4] ?_;refine wT h ?_;exact⟨congrArg Value.bool (idxF_any pr l 0 (by decide)),rfl⟩
theorem b7C (least:Int) (a:Option Addr) (k c:Nat) (l:List Int) (h:List Res) (m:View) (hg:Glob m) (hs:Rd m h a k c 1 (fl Q3 l)) :
 CT Tryz.prog 193 [.slice a k c,.int .i64 least] h m (A9 h (.bool (itemsB l least))):=by
 have hl:=hs.lenF F1 (by decide);subst hl;refine CT.body Tryz.call193 Tryz.func193 rfl Tryz.ntmps193 Lb rfl ?_;refine kQ1 [0,1] ?_;refine d2F ?_;refine B4 (GU.t rfl rfl) (fun hc=>⟨Ef,(E2 (Eg hc) Ef),c7w 233 (fun k=>!is k) _ _ _ l _ _ (fun x=>c1h x _ _ hg) hs⟩) Lb ?_;refine kQ3 [4] ?_;refine wT h ?_;exact⟨rfl,rfl⟩
theorem b2e (s1 s2:Option Addr) (n1 c1 n2 c2:Nat) (xs ys:List _) (h:List Res) (m:View) (h1:Rd m h s1 n1 c1 1 (fl Q3 xs)) (h2:Rd m h s2 n2 c2 1 (fl Q3 ys)) :
 CT Tryz.prog 56 [.slice s1 n1 c1,.slice s2 n2 c2] h m (A9 h (.bool (eqL eqI xs ys))):=by
 have l1:=h1.lenF F1 (by decide);have l2:=h2.lenF F1 (by decide);have m1:=h1.mx;have m2:=h2.mx;have k1:=h1.le;have k2:=h2.le;refine CT.body Tryz.call56 Tryz.func56 rfl Tryz.ntmps56 Lb rfl ?_;refine kQ1 [0,1] ?_;refine kQ5 [0,1,10] ?_;refine wc (fun c10=>?_) fun c10=>?_
 replace c10:=a2T c10;refine kQ1 [4] ?_;refine wT h ?_;exact⟨by rw[W7 _ _ _ (by omega)],rfl⟩;replace c10:=a2U c10;refine kQ0 [0,1] ?_;refine kQ1 [0,1,5] ?_;refine C0 [0,1] rfl (fun μ F' h'=>∃ k:Nat,(k<=n1/\eqL eqI xs ys=eqL eqI (xs.drop k) (ys.drop k))/\n1 - k=μ/\F'=[(5,.int .i64 k)]/\h=h') (n1 - 0) [(5,.int .i64 0)] (h0:=h) ?_ Sb ⟨0,⟨by omega,by simp⟩,rfl,rfl,rfl⟩ ?_;exact Su;rintro _ _ _ ⟨k,⟨hk,hJ⟩,rfl,rfl,rfl⟩;refine C2 rfl ?_;refine kQ4 [0,1,5,14] ?_;refine wc (fun c14=>?_) fun c14=>?_
 replace c14:=dT c14;obtain⟨x,hx⟩:=A5 (l:=xs) (k:=k) (by omega);obtain⟨y,hy⟩:=A5 (l:=ys) (k:=k) (by omega);rw[U4 _ hx hy] at hJ;refine kQ0 [0,1,5] ?_;refine dS [] (.op 0 (.op 1 (.op 2 (.op 3 (.op 4 (.op 5 (.op 6 (.op 7 .nil)))))))) [8] F3 ?_;refine kA8 ?_;refine SR.nil rfl rfl ?_;refine kQ1 [0,1,5,25] ?_;refine wc (fun c25=>?_) fun c25=>?_
 refine kQ1 [4] ?_;refine wT h ?_;exact⟨by rw[hJ,a4v c25];rfl,rfl⟩;rw[a4x c25,Bool.true_and] at hJ;refine kQ0 [0,1,5] ?_;refine kA3 ?_;refine WL.nil (B1 (n1 - (k+1)) [(5,.int .i64 (k+1))] (h'':=h) (by omega) ?_ Su Sb ⟨k+1,⟨by omega,hJ⟩,rfl,rfl,rfl⟩);exact Su;replace c14:=dF c14;refine kQ0 [] ?_;refine kQ1 [4] ?_;refine wT h ?_;exact⟨by rw[hJ,List.drop_eq_nil_of_le (by omega),List.drop_eq_nil_of_le (by omega)];rfl,rfl⟩
theorem b5s (w v:Vr) (b:Nat) (h:List Res) (m:View) (hb:Res.pt b (.cells (encV v).toArray 125 (0,0)) ∈ h) :
 CT Tryz.prog 195 [.agg (encV w).toArray,.pointer (some ⟨b,0,none⟩)] h m (A9 h (.bool (w.tag==v.tag))):=by
 refine CT.body Tryz.call195 Tryz.func195 rfl Tryz.ntmps195 Lb rfl ?_;refine j0 ?_;refine xX fun b2=>?_
 refine kQ1 [1,2] ?_;refine kA3 ?_;refine xG (E6 uu9 rfl Et (List.Mem.tail _ hb) rfl) ?_;refine xG (R6 Et Et) ?_;refine kQ1 [3] ?_;refine wT h ?_;exact⟨rfl,rfl⟩
theorem c6r (q:FuncId) (pr:Vr->Bool) (cap:List Value) (a:Option Addr) (k c:Nat) (l:List Vr) (h:List Res) (m:View) (hq:∀ x,x ∈ l->CT Tryz.prog q ([.agg (encV x).toArray]++cap) h m (A9 h (.bool (pr x)))) (hs:Rd m h a k c 2 (fl encV l)) :
 CT Tryz.prog 234 [.slice a k c,.func (.func q) #[] cap.toArray] h m (A9 h (.int .i64 (idxF pr l 0))):=by
 have hl:=hs.lenF F8 (by decide);have hmx:=hs.mx;have hle:=hs.le;refine CT.body Tryz.call234 Tryz.func234 rfl Tryz.ntmps234 Lb rfl ?_;refine kQ1 [0,1] ?_;refine kQ3 [0,1,7,8] ?_;refine C0 [0,1,7] rfl (fun μ F' h'=>∃ j:Nat,(j<=k/\idxF pr l 0=idxF pr (l.drop j) j)/\k - j=μ/\F'=[(8,.int .i64 j)]/\h=h') (k - 0) [(8,.int .i64 0)] (h0:=h) ?_ Sb ⟨0,⟨by omega,rfl⟩,rfl,rfl,rfl⟩ ?_;exact Su;rintro _ _ _ ⟨j,⟨hk,hJ⟩,rfl,rfl,rfl⟩;refine C2 rfl ?_;refine kQ1 [0,1,7,8,9] ?_;refine wc (fun c9=>?_) fun c9=>?_
 replace c9:=dT c9;obtain⟨x,hx⟩:=A5 (l:=l) (k:=j) (by omega);rw[idxF_drop pr hx] at hJ;refine kQ0 [0,1,7,8] ?_;refine kQ2 [0,1,5,7,8] ?_;refine kA5 ?_;refine Q9 (Ev.tmp rfl) (E1 (Ev.tmp rfl)) (hq x (List.mem_of_getElem? hx)) Lb ?_;refine kQ0 [0,1,5,7,8,16] ?_;refine wc (fun c16=>?_) fun c16=>?_
 rw[c16] at hJ;refine kQ2 [4] ?_;refine wT h ?_;exact⟨by rw[hJ];rfl,rfl⟩;rw[c16] at hJ;refine kQ0 [0,1,7,8] ?_;refine kA2 ?_;refine WL.nil (B1 (k - (j+1)) [(8,.int .i64 (j+1))] (h'':=h) (by omega) ?_ Su Sb ⟨j+1,⟨by omega,by simpa using hJ⟩,rfl,rfl,rfl⟩);exact Su;replace c9:=dF c9;rw[List.drop_eq_nil_of_le (by omega)] at hJ;refine kQ0 [] ?_;refine kQ1 [4] ?_;refine wT h ?_;exact⟨by rw[hJ];rfl,rfl⟩
theorem c7J (q:FuncId) (pr:Vr->Bool) (cap:List Value) (a:Option Addr) (k c:Nat) (l:List Vr) (h:List Res) (m:View) (hq:∀ x,x ∈ l->CT Tryz.prog q ([.agg (encV x).toArray]++cap) h m (A9 h (.bool (pr x)))) (hs:Rd m h a k c 2 (fl encV l)) :
 CT Tryz.prog 194 [.slice a k c,.func (.func q) #[] cap.toArray] h m (A9 h (.bool (l.any pr))):=by
 refine CT.body Tryz.call194 Tryz.func194 rfl Tryz.ntmps194 Lb rfl ?_;refine kQ1 [0,1] ?_;refine kA2 ?_;refine xf (E2 Et Et) (c6r q pr cap _ _ _ l _ _ hq hs) ?_;refine kQ2 [4] ?_;refine wT h ?_;exact⟨congrArg Value.bool (idxF_any pr l 0 (by decide)),rfl⟩
theorem mayProto_ct (cs:Bool) (a:Option Addr) (k c:Nat) (l:List Vr) (h:List Res) (m:View) (hg:Glob m) (hp:PrOk m h a k c l) :
 CT Tryz.prog 149 [prV cs a k c] h m (A9 h (.bool (mayPr cs l))):=by
 obtain⟨hs,hv,ht⟩:=hp;have hl:=hs.lenF F8 (by decide);subst hl;have hmx:=hs.mx;have hle:=hs.le;refine CT.body Tryz.call149 Tryz.func149 rfl Tryz.ntmps149 Lb rfl ?_;refine j0 ?_;refine xX fun b1=>?_
 refine kQ1 [1] ?_;refine kQ3 [1,7] ?_;refine wc (fun c7=>?_) fun c7=>?_
 have hd:=b9f (l:=l);refine kA7 ?_;refine H9 (GU.t rfl rfl) (fun hc=>H8 a4u.und a4u.size a4u.posz (Eg hc) Ek Rr rfl (q:=0) (by simp at hc;omega)) Lb ?_;refine zG (fun hc=>J0 b6A rfl (Nat.ne_of_beq_eq_false rfl) F8 (Nat.succ_pos _) Rr (hd hc) (Eg hc)) ?_;refine zG (fun hc=>J5 uu9 rfl F8 Rr (Eg hc) (hd hc) rfl) ?_;refine zG (fun hc=>R6 (Eg hc) Ek) ?_;refine kA4 ?_;refine H9 (GU.t rfl rfl) (fun hc=>H8 a4u.und a4u.size a4u.posz (Eg hc) Ek Rr rfl (q:=0) (by simp at hc;omega)) Lb ?_;refine zG (fun hc=>J0 b6A rfl (Nat.ne_of_beq_eq_false rfl) F8 (Nat.succ_pos _) Rr (hd (c2n hc)) (Eg hc)) ?_;refine zG (fun hc=>J5 b9c rfl F8 Rr (Eg hc) (hd (c2n hc)) rfl) ?_;refine B4 (GU.t rfl rfl) (fun hc=>⟨Ef,(E2 (Eg hc) Ek),b7C 1 _ _ _ (hdV l).items _ _ hg ((hv _ (List.mem_of_getElem? (hd (c2n hc)))).rd.mono Vl Sb)⟩) Lb ?_;refine kQ2 [2] ?_;refine wT h ?_;exact⟨by unfold mayPr;rw[c7];rfl,rfl⟩;refine kQ0 [1] ?_
 refine c6V [1,37] ?_;refine wc (fun c37=>?_) fun c37=>?_
 refine kQ1 [2] ?_;refine wT h ?_;exact⟨by unfold mayPr;rw[c7,c37];rfl,rfl⟩;refine kQ0 [1] ?_;refine kQ4 [1,39,40,41] ?_;refine C0 [1,39,40] rfl (fun μ F' h'=>∃ j:Nat,(j<=l.length/\mayIn [] l=mayIn (l.take j) (l.drop j))/\l.length - j=μ/\F'=[(41,.int .i64 j)]/\.pt b1 (.cells (prL cs a l.length c).toArray 47 (0,0))::h=h') (l.length - 0) [(41,.int .i64 0)] (h0:=.pt b1 (.cells (prL cs a l.length c).toArray 47 (0,0))::h) ?_ Sb ⟨0,⟨by omega,rfl⟩,rfl,rfl,rfl⟩ ?_;exact Su;rintro _ _ _ ⟨j,⟨hk,hJ⟩,rfl,rfl,rfl⟩;refine C2 rfl ?_;refine kQ1 [1,39,40,41,42] ?_;refine wc (fun c42=>?_) fun c42=>?_
 replace c42:=dT c42;obtain⟨v,hx⟩:=A5 (l:=l) (k:=j) (by omega);rw[b8Z hx] at hJ;have hvt:=ht v (List.mem_of_getElem? hx);have hvr:=(hv v (List.mem_of_getElem? hx)).rd;refine kQ0 [1,39,40,41] ?_;refine kA3 ?_;refine xW fun b4=>?_
 refine kQ2 [1,3,4,39,40,41] ?_;refine kA2 ?_;refine xf (E1 Et) (a1Z _ _ _ hg (by assumption)) ?_;refine kA4 ?_;refine B4 (GU.f rfl rfl) (fun hc=>⟨Ef,(E2 (Eg hc) Ek),b7C 0 _ _ _ v.items _ _ hg Rr⟩) Lb ?_;refine kA6 ?_;refine H9 (GU.f rfl rfl) (fun hc=>a9b a4u.und a4u.size (Eg hc) (Eg hc) rfl (by omega)) Lb ?_;refine zG (fun _=>PO.makeFunc Evs.nil (E1 Et)) ?_;refine B4 (GU.f rfl rfl) (fun hc=>⟨Ef,(E2 (Eg hc) (Eg hc)),c7J 195 (fun w=>w.tag==v.tag) [.pointer (some ⟨b4,0,none⟩)] _ _ _ (l.take j) _ _ (fun x _=>b5s x v b4 _ _ Me) (Rd.takeF F8 (hs.mono Vl Sb) (by omega))⟩) Lb ?_;refine kQ1 [1,39,40,41,63] ?_;refine wc (fun c63=>?_) fun c63=>?_
 have d63:badV (l.take j) v=true:=c63;rw[d63] at hJ;refine kQ1 [2] ?_;refine wT h ?_;exact⟨by unfold mayPr;rw[c7,c37,hJ];rfl,rfl⟩;have d63:badV (l.take j) v=false:=c63;rw[d63] at hJ;refine kQ0 [1,39,40,41] ?_;refine kA2 ?_;refine WL.nil (B1 (l.length - (j+1)) [(41,.int .i64 (j+1))] (h'':=.pt b1 (.cells (prL cs a l.length c).toArray 47 (0,0))::h) (by omega) ?_ Su Sb ⟨j+1,⟨by omega,by simpa using hJ⟩,rfl,rfl,rfl⟩);exact Su;replace c42:=dF c42;rw[List.drop_eq_nil_of_le (by omega)] at hJ;refine kQ0 [] ?_;refine kQ1 [2] ?_;refine wT h ?_;exact⟨by unfold mayPr;rw[c7,c37,hJ];rfl,rfl⟩
end
section
open Go.Eng Go.Lx Go.Ty
def TkR (h:List Res) (b:Nat) (L:List Tok):Value->View->List Res->Prop:=fun v _ h'=>∃ a c,v=.tuple #[]/\h'=.pt b (.cells [Value.slice a L.length c].toArray 102 (0,0))::.row (.slice a L.length c) 106 4 L.length (fl C1 L)::h
theorem a6C (kd:Int) (s:B) (k:Int) (b:Nat) (a:Option Addr) (c:Nat) (L L':List Tok) (h:List Res) (m:View) (hL:L.length<=100) (e:L++[⟨kd,0,s,IntKind.i32.wrap k⟩]=L') :
 CT Tryz.prog 181 [.int .u8 kd,str s,.int .i64 k,.pointer (some ⟨b,0,none⟩)] (.pt b (.cells [Value.slice a L.length c].toArray 102 (0,0))::.row (.slice a L.length c) 106 4 L.length (fl C1 L)::h) m
  (TkR h b L'):=by
 subst e;refine CT.body Tryz.call181 Tryz.func181 rfl Tryz.ntmps181 Lb rfl ?_;refine j0 ?_;refine kR a fun p q r=>?_
 refine kA4 ?_;refine xG (PO.conv uu3 a5i Et) ?_;refine kA1 ?_;refine xY B3 Eb fun b13=>?_
 refine xD B3 (Ev.tmp rfl) (Ev.tmp rfl) rfl (H1 (enc:=C1) _ (⟨kd,0,s,IntKind.i32.wrap k⟩)) fun a14 c14=>?_
 refine kA1 ?_;refine WL.nil (w0 (.pt b (.cells [Value.slice a14 (L.length+1) c14].toArray 102 (0,0))::.row (.slice a14 (L.length+1) c14) 106 4 (L.length+1) (fl C1 (L++[⟨kd,0,s,IntKind.i32.wrap k⟩]))::h) ?_);exact⟨a14,c14,rfl,by rw[List.length_append];rfl⟩
def d3B (h:List Res) (p:List Tok × Int):Value->View->List Res->Prop:=fun v _ h'=>∃ a c,v=.tuple #[.slice a p.1.length c,.int .i64 p.2]/\h'=.row (.slice a p.1.length c) 106 4 p.1.length (fl C1 p.1)::h
theorem tokens_ct (t:Ty) (h:List Res) (m:View) (hg:Glob m) (hs:t.proto.length<=9223372036854775807):CT Tryz.prog 128 [tyV t] h m (d3B h (tokens t)):=by
 refine CT.body Tryz.call128 Tryz.func128 rfl Tryz.ntmps128 Lb rfl ?_;refine j0 ?_;refine xX fun b1=>?_
 refine kQ2 [1] ?_;refine kA1 ?_;refine xf (E1 Et) (may_ct t _ _ hg hs) ?_;refine kQ1 [1,12] ?_;refine wc (fun c12=>?_) fun c12=>?_
 have d12:may t=false:=by simpa using c12
 refine kA1 ?_;refine WL.addNil 106 4 ?_;refine kQ1 [2,3] ?_;refine w2 (.row (.slice none 0 0) 106 4 0 []::h) ?_;exact⟨none,0,by rw[b3C d12];rfl,by rw[b3C d12];rfl⟩;have d12:may t=true:=by simpa using c12
 refine kQ0 [1] ?_;refine xW fun b4=>?_
 refine WL.addNil 106 4 ?_;refine WL.take (r:=.pt b4 (.cells [Value.slice none 0 0].toArray 102 (0,0))) De ?_;refine kQ0 [1,4] ?_;refine xG (PO.makeFunc Evs.nil (E1 Et)) ?_;refine kQ1 [1,4,5] ?_;generalize hD:dimT t=D;have hDl:D.length<=3:=hD ▸ dimT_le t
 refine kP3 [1,4,5,16] ?_;refine L4 KKh [1,4,5] rfl (fun F' h'=>∃ a:Option Addr,∃ c:Nat,(True)/\F'=[]/\.pt b4 (.cells [Value.slice a D.length c].toArray 102 (0,0))::.row (.slice a D.length c) 106 4 D.length (fl C1 D)::.pt b1 (.cells (M2 t).toArray 43 (0,0))::h=h') ?_ ?_;refine jE ?_;refine wc (fun c16=>?_) fun c16=>?_
 refine kA1 ?_;refine H5 (Ev.tmp rfl) (E3 Ek Ek Ek) (a6C 5 lb 0 b4 none 0 [] [D0 lb] _ _ (by decide) rfl) Lb ?_;rintro _ _ ⟨a18,p18,rfl,rfl⟩;refine kQ0 [1,4,5] ?_;refine kA3 ?_;refine H5 (Ev.tmp rfl) (E3 Ek Ek (Ev.tmp rfl)) (a6C 3 [] t.dim b4 a18 p18 [D0 lb] [D0 lb,⟨3,0,[],t.dim⟩] _ _ (by decide) (by rw[c4s d12];rfl)) Lb ?_;rintro _ _ ⟨a22,p22,rfl,rfl⟩;refine kQ0 [1,4,5] ?_;refine kA1 ?_;refine H5 (Ev.tmp rfl) (E3 Ek Ek Ek) (a6C 5 rb 0 b4 a22 p22 [D0 lb,⟨3,0,[],t.dim⟩] D _ _ (by simp) (by rw[<- hD];unfold dimT;rw[c16];rfl)) Lb ?_;rintro _ _ ⟨a24,p24,rfl,rfl⟩;refine WL.nil (E5 [] (h'':=.pt b4 (.cells [Value.slice a24 D.length p24].toArray 102 (0,0))::.row (.slice a24 D.length p24) 106 4 D.length (fl C1 D)::.pt b1 (.cells (M2 t).toArray 43 (0,0))::h) ?_ Su Sb ⟨a24,p24,by trivial,rfl,rfl⟩);exact Su;have e16:D=[]:=by rw[<- hD];unfold dimT;rw[c16];rfl
 refine a0G (h':=.pt b4 (.cells [Value.slice none D.length 0].toArray 102 (0,0))::.row (.slice none D.length 0) 106 4 D.length (fl C1 D)::.pt b1 (.cells (M2 t).toArray 43 (0,0))::h) (by rw[e16];rfl) ?_;refine WC.skip (E5 [] (h'':=.pt b4 (.cells [Value.slice none D.length 0].toArray 102 (0,0))::.row (.slice none D.length 0) 106 4 D.length (fl C1 D)::.pt b1 (.cells (M2 t).toArray 43 (0,0))::h) ?_ Su Sb ⟨none,0,by trivial,rfl,rfl⟩);exact Su;rintro _ _ ⟨a,c,hJ,rfl,rfl⟩;refine C2 rfl ?_;refine j0 ?_;generalize hE:D++chanT t=E;have hEl:E.length<=5:=by rw[<- hE,List.length_append];have:=chanT_le t;omega
 refine kQ3 [1,4,5,6] ?_;refine kP2 [1,4,5,6,28] ?_;refine L4 KKh [1,4,5] rfl (fun F' h'=>∃ a':Option Addr,∃ c':Nat,(True)/\F'=[(6,.int .u8 (baseT t))]/\.pt b4 (.cells [Value.slice a' E.length c'].toArray 102 (0,0))::.row (.slice a' E.length c') 106 4 E.length (fl C1 E)::.pt b1 (.cells (M2 t).toArray 43 (0,0))::h=h') ?_ ?_;refine jE ?_;refine wc (fun c28=>?_) fun c28=>?_
 refine kA1 ?_;refine H5 (Ev.tmp rfl) (E3 Ek Ek Ek) (a6C 2 a4s 0 b4 a c D (D++[a2S a4s]) _ _ (by omega) rfl) Lb ?_;rintro _ _ ⟨a30,p30,rfl,rfl⟩;refine kQ0 [1,4,5] ?_;refine kA1 ?_;refine H5 (Ev.tmp rfl) (E3 Ek Ek Ek) (a6C 2 cOF 0 b4 a30 p30 (D++[a2S a4s]) E _ _ (by simp;omega) (by rw[<- hE];unfold chanT;rw[c28];simp;rfl)) Lb ?_;rintro _ _ ⟨a32,p32,rfl,rfl⟩;refine kQ0 [1,4,5] ?_;refine kA3 ?_;refine WL.nil (E5 [(6,.int .u8 (baseT t))] (h'':=.pt b4 (.cells [Value.slice a32 E.length p32].toArray 102 (0,0))::.row (.slice a32 E.length p32) 106 4 E.length (fl C1 E)::.pt b1 (.cells (M2 t).toArray 43 (0,0))::h) ?_ Su Sb ⟨a32,p32,by trivial,rfl,rfl⟩);refine Sub.consE rfl (congrArg (Value.int .u8) (by unfold baseT;rw[c28];rfl)) ?_;exact Su;have e28:E=D:=by rw[<- hE];unfold chanT;rw[c28];simp
 refine a0G (h':=.pt b4 (.cells [Value.slice a E.length c].toArray 102 (0,0))::.row (.slice a E.length c) 106 4 E.length (fl C1 E)::.pt b1 (.cells (M2 t).toArray 43 (0,0))::h) (by rw[e28]) ?_;refine WC.skip (E5 [(6,.int .u8 (baseT t))] (h'':=.pt b4 (.cells [Value.slice a E.length c].toArray 102 (0,0))::.row (.slice a E.length c) 106 4 E.length (fl C1 E)::.pt b1 (.cells (M2 t).toArray 43 (0,0))::h) ?_ Su Sb ⟨a,c,by trivial,rfl,rfl⟩);refine Sub.consE rfl (congrArg (Value.int .u8) (by unfold baseT;rw[c28];rfl)) ?_;exact Su;rintro _ _ ⟨a',c',hJ,rfl,rfl⟩;refine C2 rfl ?_;refine kA1 ?_;refine xf (E1 Et) (b0k _ _ _ hg) ?_;refine kQ7 [1,4,5,7,9] ?_;refine kQ2 [1,4,5,7,43] ?_;refine wc (fun c43=>?_) fun c43=>?_
 refine kA2 ?_;refine H5 (Ev.tmp rfl) (E3 Ek (Ev.tmp rfl) Ek) (a6C 2 (wordS (baseT t)).1 0 b4 a' c' E (toks t) _ _ (by omega) (by unfold toks;rw[hD,hE];unfold lastT;rw[c43];rfl)) Lb ?_;rintro _ _ ⟨a47,p47,rfl,rfl⟩;refine kQ0 [4] ?_;refine kQ3 [2,3] ?_;refine w2 (.row (.slice a47 (toks t).length p47) 106 4 (toks t).length (fl C1 (toks t))::h) ?_;exact⟨a47,p47,by rw[tokens_yes d12],by rw[tokens_yes d12]⟩;refine kA2 ?_;refine xG (W9 Et Ek) ?_;refine kQ1 [1,4,5,48] ?_;refine wc (fun c48=>?_) fun c48=>?_
 refine kA3 ?_;refine H5 (Ev.tmp rfl) (E3 Ek (Ev.tmp rfl) Ek) (a6C 1 t.proto 0 b4 a' c' E (toks t) _ _ (by omega) (by unfold toks;rw[hD,hE];unfold lastT;rw[c43,c48];rfl)) Lb ?_;rintro _ _ ⟨a55,p55,rfl,rfl⟩;refine kQ0 [4] ?_;refine kQ3 [2,3] ?_;refine w2 (.row (.slice a55 (toks t).length p55) 106 4 (toks t).length (fl C1 (toks t))::h) ?_;exact⟨a55,p55,by rw[tokens_yes d12],by rw[tokens_yes d12]⟩;refine kA1 ?_;refine H5 (Ev.tmp rfl) (E3 Ek Ek Ek) (a6C 2 a6o 0 b4 a' c' E (toks t) _ _ (by omega) (by unfold toks;rw[hD,hE];unfold lastT;rw[c43,c48];rfl)) Lb ?_;rintro _ _ ⟨a42,p42,rfl,rfl⟩;refine kQ0 [4] ?_;refine kQ3 [2,3] ?_;refine w2 (.row (.slice a42 (toks t).length p42) 106 4 (toks t).length (fl C1 (toks t))::h) ?_;exact⟨a42,p42,by rw[tokens_yes d12],by rw[tokens_yes d12]⟩
abbrev FL (b1 b2 b3 b5:Nat) (a:Option Addr) (k c:Nat) (t:Ty) (n:Nat):List Res:=
 [.pt b5 (.cells [Value.func (.func 218) [].toArray [Value.pointer (some ⟨b3,0,none⟩),.pointer (some ⟨b1,0,none⟩)].toArray].toArray 249 (0,0)),
  .pt b3 (.cells [Value.int .i64 n].toArray 3 (0,0)),.pt b2 (.cells (M2 t).toArray 43 (0,0)),.pt b1 (.cells [Value.slice a k c].toArray 102 (0,0))]
theorem W6 (b1 b2 b3 b5:Nat) (a:Option Addr) (k c:Nat) (l:List Tok) (t:Ty) (n:Nat) (kd:Int) (s:B) (h:List Res) (m:View) (hs:Rd m h a k c 4 (fl C1 l)) (hn:n<=k) :
 CT Tryz.prog 218 [.int .u8 kd,str s,.pointer (some ⟨b3,0,none⟩),.pointer (some ⟨b1,0,none⟩)] (FL b1 b2 b3 b5 a k c t n++h) m (A9 (FL b1 b2 b3 b5 a k c t (nx (next l n kd s) n)++h) (.bool (next l n kd s))):=by
 have hl:=hs.lenF C5 (by decide);subst hl;have hmx:=hs.mx;have hle:=hs.le;have hq:n < l.length->l[n]?=some (L7 l n):=a3q;refine CT.body Tryz.call218 Tryz.func218 rfl Tryz.ntmps218 Lb rfl ?_;refine kQ1 [0,1,2,3] ?_;refine kA5 ?_;refine zG (fun _=>pL a1Y) ?_;refine zG (fun _=>pL uu3) ?_;refine H9 (GU.f rfl rfl) (fun hc=>H8 B3.und B3.size B3.posz (Eg hc) (Eg hc) Rr rfl (by simp at hc;omega)) Lb ?_;refine H9 (GU.f rfl rfl) (fun hc=>J0 K5 rfl (Nat.ne_of_beq_eq_false rfl) C5 (Nat.succ_pos _) Rr (hq (by simp at hc;omega)) (Eg hc)) Lb ?_;refine H9 (GU.f rfl rfl) (fun hc=>J5 a9P rfl C5 Rr (Eg hc) (hq (by simp at hc;omega)) rfl) Lb ?_;refine kA4 ?_;refine zG (fun _=>pL a1Y) ?_;refine zG (fun _=>pL uu3) ?_;refine H9 (GU.f rfl rfl) (fun hc=>H8 B3.und B3.size B3.posz (Eg hc) (Eg hc) Rr rfl (by simp at hc;omega)) Lb ?_
 refine H9 (GU.f rfl rfl) (fun hc=>J0 K5 rfl (Nat.ne_of_beq_eq_false rfl) C5 (Nat.succ_pos _) Rr (hq (by simp at hc;omega)) (Eg hc)) Lb ?_;refine H9 (GU.f rfl rfl) (fun hc=>J5 uu9 rfl C5 Rr (Eg hc) (hq (by simp at hc;omega)) rfl) Lb ?_;refine kA1 ?_;refine zG (fun hc=>W9 (Eg hc) (Eg hc)) ?_;refine kA5 ?_;refine zG (fun _=>pL a1Y) ?_;refine zG (fun _=>pL uu3) ?_;refine H9 (a1J rfl rfl) (fun hc=>H8 B3.und B3.size B3.posz (Eg hc) (Eg hc) Rr rfl (by simp at hc;omega)) Lb ?_;refine H9 (a1J rfl rfl) (fun hc=>J0 K5 rfl (Nat.ne_of_beq_eq_false rfl) C5 (Nat.succ_pos _) Rr (hq (by simp at hc;omega)) (Eg hc)) Lb ?_;refine H9 (a1J rfl rfl) (fun hc=>J5 a5i rfl C5 Rr (Eg hc) (hq (by simp at hc;omega)) rfl) Lb ?_;refine kA1 ?_;refine zG (fun hc=>Y1 hc rfl rfl) ?_;refine kQ1 [2,40] ?_;refine wc (fun c40=>?_) fun c40=>?_
 have d:next l n kd s=false:=by unfold next;rw[show a5p l n kd s=true from c40];rfl
 refine kQ1 [6] ?_;refine wT (FL b1 b2 b3 b5 a l.length c t n++h) ?_;rw[d];exact⟨rfl,rfl⟩
 have d:next l n kd s=true:=by unfold next;rw[show a5p l n kd s=false from c40];rfl
 have hlt:=a5l d;refine kQ0 [2] ?_;refine kQ3 [] ?_;refine kQ1 [6] ?_;refine wT (FL b1 b2 b3 b5 a l.length c t (n+1)++h) ?_;rw[d];exact⟨rfl,rfl⟩
theorem c2f (x1 x2 x3 x5:Nat) (a:Option Addr) (k c:Nat) (l:List Tok) (t:Ty) (n:Nat) (h:List Res) (m:View) (hg:Glob m) (hs:Rd m h a k c 4 (fl C1 l)) (hn:n<=k) :
 CT Tryz.prog 219 [.pointer (some ⟨x2,0,none⟩),.pointer (some ⟨x5,0,none⟩)] (FL x1 x2 x3 x5 a k c t n++h) m (A9 (FL x1 x2 x3 x5 a k c (a7p t (named l n)) (nx (nmB l n) n)++h) (.bool (nmB l n))):=by
 refine CT.body Tryz.call219 Tryz.func219 rfl Tryz.ntmps219 Lb rfl ?_;refine kQ1 [0,1] ?_;refine xG (L2 (vs:=fl c3L prims) a9Z rfl rfl Ev.global rfl (fun j v hj=>by rw[Nat.zero_add];exact hg.prim j v hj)) ?_;refine kQ1 [0,1,6,7] ?_;refine C0 [0,1,6] rfl (fun μ F' h'=>∃ i:Nat,(i<=3/\named l n=a4k l n (prims.drop i))/\3 - i=μ/\F'=[(7,.int .i64 i)]/\FL x1 x2 x3 x5 a k c t n++h=h') (3 - 0) [(7,.int .i64 0)] (h0:=FL x1 x2 x3 x5 a k c t n++h) ?_ Sb ⟨0,⟨by omega,rfl⟩,rfl,rfl,rfl⟩ ?_;exact Su;rintro _ _ _ ⟨i,⟨hk,hJ⟩,rfl,rfl,rfl⟩;refine C2 rfl ?_;refine kQ1 [0,1,6,7,8] ?_;refine wc (fun c8=>?_) fun c8=>?_
 replace c8:=dT c8;obtain⟨p,hp⟩:=A5 (l:=prims) (k:=i) (by show i < 3;omega);rw[a8p l n hp] at hJ;refine kQ0 [0,1,6,7] ?_;refine xG (a9k (sz:=3) (q:=i) a9Z b6e rfl rfl Et Et rfl (by omega) (b1h hp)) ?_;refine xW fun b5=>?_
 refine kQ1 [0,1,5,6,7] ?_;refine kA3 ?_;refine H5 (Ev.tmp rfl) (E2 Ek (Ev.tmp rfl)) (CT.frame (fr:=[_]) (hs:=h) (W6 x1 x2 x3 x5 a k c l t n 2 p.word _ _ (hs.mono Vl (List.sublist_cons_self _ _)) hn)) Lb ?_;rintro _ _ ⟨rfl,rfl⟩;refine kQ0 [0,1,5,6,7,13] ?_;refine wc (fun c13=>?_) fun c13=>?_
 rw[c13] at hJ;rw[c13];refine kQ5 [] ?_;refine kQ1 [3] ?_;refine wT (FL x1 x2 x3 x5 a k c (a7p t (some p.kind)) (n+1)++h) ?_;rw[nmB,hJ];exact⟨rfl,rfl⟩
 rw[c13] at hJ;rw[c13];refine kQ0 [0,1,6,7] ?_;refine kA2 ?_;refine WL.nil (B1 (3 - (i+1)) [(7,.int .i64 (i+1))] (h'':=FL x1 x2 x3 x5 a k c t n++h) (by omega) ?_ Su Sb ⟨i+1,⟨by omega,by simpa using hJ⟩,rfl,rfl,rfl⟩);exact Su;replace c8:=dF c8;rw[List.drop_eq_nil_of_le (by show 3<=i;omega)] at hJ;refine kQ0 [] ?_;refine kQ1 [3] ?_;refine wT (FL x1 x2 x3 x5 a k c t n++h) ?_;rw[nmB,hJ];exact⟨rfl,rfl⟩
theorem c1c (x1 x2 x3 x5:Nat) (a:Option Addr) (k c:Nat) (l:List Tok) (t:Ty) (n:Nat) (h:List Res) (m:View) (hg:Glob m) (hs:Rd m h a k c 4 (fl C1 l)) (hn:n<=k) :
 CT Tryz.prog 219 [.pointer (some ⟨x2,2,none⟩),.pointer (some ⟨x5,0,none⟩)] (FL x1 x2 x3 x5 a k c t n++h) m (A9 (FL x1 x2 x3 x5 a k c (a8t t (named l n)) (nx (nmB l n) n)++h) (.bool (nmB l n))):=by
 refine CT.body Tryz.call219 Tryz.func219 rfl Tryz.ntmps219 Lb rfl ?_;refine kQ1 [0,1] ?_;refine xG (L2 (vs:=fl c3L prims) a9Z rfl rfl Ev.global rfl (fun j v hj=>by rw[Nat.zero_add];exact hg.prim j v hj)) ?_;refine kQ1 [0,1,6,7] ?_;refine C0 [0,1,6] rfl (fun μ F' h'=>∃ i:Nat,(i<=3/\named l n=a4k l n (prims.drop i))/\3 - i=μ/\F'=[(7,.int .i64 i)]/\FL x1 x2 x3 x5 a k c t n++h=h') (3 - 0) [(7,.int .i64 0)] (h0:=FL x1 x2 x3 x5 a k c t n++h) ?_ Sb ⟨0,⟨by omega,rfl⟩,rfl,rfl,rfl⟩ ?_;exact Su;rintro _ _ _ ⟨i,⟨hk,hJ⟩,rfl,rfl,rfl⟩;refine C2 rfl ?_;refine kQ1 [0,1,6,7,8] ?_;refine wc (fun c8=>?_) fun c8=>?_
 replace c8:=dT c8;obtain⟨p,hp⟩:=A5 (l:=prims) (k:=i) (by show i < 3;omega);rw[a8p l n hp] at hJ;refine kQ0 [0,1,6,7] ?_;refine xG (a9k (sz:=3) (q:=i) a9Z b6e rfl rfl Et Et rfl (by omega) (b1h hp)) ?_;refine xW fun b5=>?_
 refine kQ1 [0,1,5,6,7] ?_;refine kA3 ?_;refine H5 (Ev.tmp rfl) (E2 Ek (Ev.tmp rfl)) (CT.frame (fr:=[_]) (hs:=h) (W6 x1 x2 x3 x5 a k c l t n 2 p.word _ _ (hs.mono Vl (List.sublist_cons_self _ _)) hn)) Lb ?_;rintro _ _ ⟨rfl,rfl⟩;refine kQ0 [0,1,5,6,7,13] ?_;refine wc (fun c13=>?_) fun c13=>?_
 rw[c13] at hJ;rw[c13];refine kQ5 [] ?_;refine kQ1 [3] ?_;refine wT (FL x1 x2 x3 x5 a k c (a8t t (some p.kind)) (n+1)++h) ?_;rw[nmB,hJ];exact⟨rfl,rfl⟩
 rw[c13] at hJ;rw[c13];refine kQ0 [0,1,6,7] ?_;refine kA2 ?_;refine WL.nil (B1 (3 - (i+1)) [(7,.int .i64 (i+1))] (h'':=FL x1 x2 x3 x5 a k c t n++h) (by omega) ?_ Su Sb ⟨i+1,⟨by omega,by simpa using hJ⟩,rfl,rfl,rfl⟩);exact Su;replace c8:=dF c8;rw[List.drop_eq_nil_of_le (by show 3<=i;omega)] at hJ;refine kQ0 [] ?_;refine kQ1 [3] ?_;refine wT (FL x1 x2 x3 x5 a k c t n++h) ?_;rw[nmB,hJ];exact⟨rfl,rfl⟩
theorem front_ct (a:Option Addr) (k c:Nat) (l:List Tok) (h:List Res) (m:View) (hg:Glob m) (hs:Rd m h a k c 4 (fl C1 l)) (hT:TkOk l) :
 CT Tryz.prog 167 [.slice a k c] h m (A9 h (.tuple #[tyV (front l).1,.int .i64 (front l).2.1,.int .i64 (front l).2.2])):=by
 have hl:=hs.lenF C5 (by decide);subst hl;have hmx:=hs.mx;have hle:=hs.le;refine CT.body Tryz.call167 Tryz.func167 rfl Tryz.ntmps167 Lb rfl ?_;refine j0 ?_;refine xX fun b1=>?_
 refine xW fun b2=>?_
 refine xW fun b3=>?_
 refine kQ1 [1,2,3] ?_;refine xG (PO.makeFunc Evs.nil (E2 Et Et)) ?_;refine xW fun b5=>?_
 refine kQ1 [1,2,3,5] ?_;refine xG (PO.makeFunc Evs.nil (E1 Et)) ?_;refine kQ1 [1,2,3,5,6] ?_;refine kQ1 [1,2,3,5,6,7] ?_;refine a8q (h':=FL b1 b2 b3 b5 a l.length c zeroT 0++h) rfl ?_;refine kA1 ?_;refine H5 (Ev.tmp rfl) (E2 Ek Ek) (W6 b1 b2 b3 b5 a _ c l zeroT 0 5 lb h _ hs (by omega)) Lb ?_;rintro _ _ ⟨rfl,rfl⟩;refine kP0 [1,2,3,5,6,7,11] ?_;refine L4 KKh [1,2,3,5,6] rfl (fun F' h'=>∃ ok:Bool,∃ d:Int,∃ n:Nat,(pre l=(ok,d,n)/\n<=l.length)/\F'=[(7,.bool ok)]/\FL b1 b2 b3 b5 a l.length c ⟨0,d,0,[]⟩ n++h=h') ?_ ?_;refine jE ?_;refine wc (fun c11=>?_) fun c11=>?_
 have hl0:=a5l c11;refine a0G (h':=FL b1 b2 b3 b5 a l.length c zeroT 1++h) (by rw[c11];rfl) ?_;refine kA1 ?_;refine H5 (Ev.tmp rfl) (E2 Ek Ek) (W6 b1 b2 b3 b5 a _ c l zeroT 1 3 [] h _ hs (by omega)) Lb ?_;rintro _ _ ⟨rfl,rfl⟩;refine kQ1 [1,2,3,5,6,7] ?_;refine kQ1 [1,2,3,5,6,7,14] ?_;refine wc (fun c14=>?_) fun c14=>?_
 have hl1:=a5l c14;have h1:=a3q hl1;have hw:=(hT _ (List.mem_of_getElem? h1)).1;refine a0G (h':=FL b1 b2 b3 b5 a l.length c zeroT 2++h) (by rw[c14];rfl) ?_;refine kA2 ?_;refine xG (a0I Et Ek (by omega)) ?_;refine xG (H8 B3.und B3.size B3.posz (Ev.tmp rfl) (Ev.tmp rfl) Rr (q:=1) (by omega) (by omega)) ?_;refine kA2 ?_;refine xG (PO.conv a5i uu3 Et) ?_;refine WL.val (v':=.int .i64 (L7 l 1).n) (congrArg (Value.int .i64) (wrapN hw)) ?_;refine kA2 ?_;refine a8q (h':=FL b1 b2 b3 b5 a l.length c ⟨0,(L7 l 1).n,0,[]⟩ 2++h) rfl ?_;refine kQ0 [1,2,3,5,6] ?_;refine kA4 ?_;refine zG (fun _=>pL c2k) ?_;refine a6V (GU.t rfl rfl) (fun hc=>⟨(a0j rfl hc),(E2 Ek Ek),CT.outE (h2:=FL b1 b2 b3 b5 a l.length c ⟨0,(L7 l 1).n,0,[]⟩ (nx (decide ((L7 l 1).n > 0)&&next l 2 5 rb) 2)++h) (by rw[hc,Bool.true_and]) (W6 b1 b2 b3 b5 a _ c l ⟨0,(L7 l 1).n,0,[]⟩ 2 5 rb h _ hs (by omega))⟩) (fun hc=>(by rw[hc];rfl)) Lb ?_
 refine kA2 ?_;refine WL.nil (E5 [(7,.bool ((decide ((L7 l 1).n > 0)&&next l 2 5 rb)))] (h'':=FL b1 b2 b3 b5 a l.length c ⟨0,((L7 l 1).n),0,[]⟩ (nx (decide ((L7 l 1).n > 0)&&next l 2 5 rb) 2)++h) ?_ Su Sb ⟨(decide ((L7 l 1).n > 0)&&next l 2 5 rb),(L7 l 1).n,nx (decide ((L7 l 1).n > 0)&&next l 2 5 rb) 2,⟨b8W c11 c14,c2y (fun e=>a5l (by simp at e;exact e.2)) (by omega)⟩,rfl,rfl⟩);exact Su;refine a0G (h':=FL b1 b2 b3 b5 a l.length c zeroT 1++h) (by rw[c14];rfl) ?_;refine WC.skip (E5 [(7,.bool false)] (h'':=FL b1 b2 b3 b5 a l.length c ⟨0,0,0,[]⟩ 1++h) ?_ Su Sb ⟨false,0,1,⟨c4O c11 c14,by omega⟩,rfl,rfl⟩);refine Sub.consE rfl (congrArg Value.bool c14) ?_;exact Su;refine a0G (h':=FL b1 b2 b3 b5 a l.length c zeroT 0++h) (by rw[c11];rfl) ?_;refine WC.skip (E5 [(7,.bool true)] (h'':=FL b1 b2 b3 b5 a l.length c ⟨0,0,0,[]⟩ 0++h) ?_ Su Sb ⟨true,0,0,⟨c2o c11,by omega⟩,rfl,rfl⟩);exact Su
 rintro _ _ ⟨ok,d,n,⟨hP,hn⟩,rfl,rfl⟩;refine C2 rfl ?_;refine jS ?_;refine L4 KKh [2,3] rfl (fun F' h'=>∃ okB:Bool,∃ t:Ty,∃ nB:Nat,(mid l=(okB,t,nB)/\t.proto.length<=9223372036854775807)/\F'=[(7,.bool okB)]/\FL b1 b2 b3 b5 a l.length c t nB++h=h') ?_ ?_;refine kA5 ?_;refine a6V (GU.f rfl rfl) (fun hc=>⟨(a0j rfl hc),(E1 (a0j rfl hc)),CT.outE (h2:=FL b1 b2 b3 b5 a l.length c (a7p ⟨0,d,0,[]⟩ (if ok then named l n else none)) (nx (ok&&nmB l n) n)++h) (by revert hc;cases ok;exact fun hc=>absurd hc (by decide);exact fun _=>rfl) (c2f b1 b2 b3 b5 a _ c l ⟨0,d,0,[]⟩ n h _ hg hs hn)⟩) (fun hc=>(by revert hc;cases ok;exact fun _=>rfl;exact fun hc=>absurd hc (by decide))) Lb ?_;refine kQ2 [1,2,3,5,6,7,30] ?_;refine wc (fun c30=>?_) fun c30=>?_
 refine WC.skip (E5 [(7,.bool ok)] (h'':=FL b1 b2 b3 b5 a l.length c (a7p ⟨0,d,0,[]⟩ (if ok then named l n else none)) (nx (ok&&nmB l n) n)++h) ?_ Su Sb ⟨ok,a7p ⟨0,d,0,[]⟩ (if ok then named l n else none),nx (ok&&nmB l n) n,⟨c6W hP c30,by cases ok;exact Nat.zero_le _;cases named l n;exact Nat.zero_le _;exact Nat.zero_le _⟩,rfl,rfl⟩);exact Su;obtain⟨rfl,hnm⟩:ok=true/\nmB l n=false:=by revert c30;cases ok <;> simp
 have hN:=b8H hnm;refine a0G (h':=FL b1 b2 b3 b5 a l.length c ⟨0,d,0,[]⟩ n++h) (by rw[hN,hnm];rfl) ?_;refine kA1 ?_;refine H5 (Ev.tmp rfl) (E2 Ek Ek) (W6 b1 b2 b3 b5 a _ c l ⟨0,d,0,[]⟩ n 2 a4s h _ hs hn) Lb ?_;rintro _ _ ⟨rfl,rfl⟩;refine kQ1 [1,2,3,5,6,7,38] ?_;refine wc (fun c38=>?_) fun c38=>?_
 have hln:=a5l c38;refine a0G (h':=FL b1 b2 b3 b5 a l.length c ⟨0,d,0,[]⟩ (n+1)++h) (by rw[c38];rfl) ?_;refine kA2 ?_;refine a8q (h':=FL b1 b2 b3 b5 a l.length c ⟨4,d,0,[]⟩ (n+1)++h) rfl ?_;refine kQ0 [1,2,3,5,6] ?_;refine kA1 ?_;refine H5 (Ev.tmp rfl) (E2 Ek Ek) (W6 b1 b2 b3 b5 a _ c l ⟨4,d,0,[]⟩ (n+1) 2 cOF h _ hs (by omega)) Lb ?_;rintro _ _ ⟨rfl,rfl⟩;refine kA1 ?_;refine wn [1,2,3,5,6,7] ?_;refine jE ?_;have hNle:nx (next l (n+1) 2 cOF) (n+1)<=l.length:=c2y (fun e=>a5l e) (by omega);generalize ho:next l (n+1) 2 cOF=o at *;generalize hNN:nx o (n+1)=N at *;have hN2le:nx (o&&nmB l N) N<=l.length:=c2y (fun e=>d0g (by simp at e;exact e.2)) hNle;refine WC.take (r:=.pt b2 (.cells (M2 ⟨4,d,0,[]⟩).toArray 43 (0,0))) De ?_;refine WC.take (r:=.pt b3 (.cells [Value.int .i64 N].toArray 3 (0,0))) De ?_
 refine H4 [4,8,16] (.op 0 (.op 1 (.op 2 (.op 3 (.op 4 (.op 5 (.op 6 (.op 7 (.op 9 (.op 10 (.op 8 (.op 11 (.op 12 (.op 13 (.op 14 (.op 15 (.op 16 (.op 17 (.op 18 (.op 19 .nil)))))))))))))))))))) [20,21] _ [.pt b3 (.cells [Value.int .i64 N].toArray 3 (0,0)),.pt b2 (.cells (M2 ⟨4,d,0,[]⟩).toArray 43 (0,0))] F3 (fun _ _ _ _ _ h=>h) [] (by kernel_rfl) ?_;refine kA2 ?_;refine B9 rfl rfl (GU.t rfl rfl) (fun hc=>PO.move Et) Lb ?_;refine kA1 ?_;refine c0m rfl rfl (GU.t rfl rfl) (fun hc=>⟨(a0j rfl hc),(E1 (a0j rfl hc)),fun fr=>CT.perm (b3o _ _ _ _) (CT.outE (h2:=FL b1 b2 b3 b5 a l.length c (a8t ⟨4,d,0,[]⟩ (if o then named l N else none)) (nx (o&&nmB l N) N)++(fr++h)) (by rw[hc];rfl) (c1c b1 b2 b3 b5 a _ c l ⟨4,d,0,[]⟩ N (fr++h) _ hg (hs.mono Vl (List.sublist_append_right _ _)) hNle)) (b3o _ _ _ _).symm⟩) (fun hc=>(by rw[hc];rfl)) Lb ?_;generalize hN2:nx (o&&nmB l N) N=N2 at *
 generalize hT2:a8t ⟨4,d,0,[]⟩ (if o then named l N else none)=T2;have hq:N2 < l.length->l[N2]?=some (L7 l N2):=a3q;refine B9 rfl rfl (GU.t rfl rfl) (fun hc=>PO.not (Eg hc)) Lb ?_;refine kA2 ?_;refine B9 rfl rfl (GU.t rfl rfl) (fun hc=>E6 a1Y rfl Et Me rfl) Lb ?_;refine B9 rfl rfl (GU.t rfl rfl) (fun hc=>X1 a1Y (Eg hc)) Lb ?_;refine b9k rfl rfl (GU.t rfl rfl) (fun hc fr=>E6 uu3 rfl Et (List.mem_append_right _ Me) rfl) Lb ?_;refine B9 rfl rfl (GU.t rfl rfl) (fun hc=>S0 (Eg hc) (Eg hc) rfl) Lb ?_;refine kA2 ?_;refine B9 rfl rfl (GU.t rfl rfl) (fun hc=>E6 c2k rfl Et Me rfl) Lb ?_;refine B9 rfl rfl (GU.t rfl rfl) (fun hc=>E6 a1Y rfl Et Me rfl) Lb ?_;refine b9k rfl rfl (GU.t rfl rfl) (fun hc fr=>E6 uu3 rfl Et (List.mem_append_right _ Me) rfl) Lb ?_;refine B9 rfl rfl (GU.t rfl rfl) (fun hc=>H8 B3.und B3.size B3.posz (Eg hc) (Eg hc) Rr rfl (by simp at hc;omega)) Lb ?_
 refine B9 rfl rfl (GU.t rfl rfl) (fun hc=>J0 K5 rfl (Nat.ne_of_beq_eq_false rfl) C5 (Nat.succ_pos _) Rr (hq (by simp at hc;omega)) (Eg hc)) Lb ?_;refine B9 rfl rfl (GU.t rfl rfl) (fun hc=>J5 uu9 rfl C5 Rr (Eg hc) (hq (by simp at hc;omega)) rfl) Lb ?_;refine SR.nil rfl rfl ?_;refine WL.take (r:=.pt b5 (.cells [Value.func (.func 218) [].toArray [Value.pointer (some ⟨b3,0,none⟩),.pointer (some ⟨b1,0,none⟩)].toArray].toArray 249 (0,0))) De ?_;refine a6V (GU.t rfl rfl) (fun hc=>⟨(a0j rfl hc),(E2 Ek (a0j rfl hc)),CT.outE (h2:=FL b1 b2 b3 b5 a l.length c T2 (nx ((o&&!nmB l N)&&decide ((N2:Int) < l.length)&&next l N2 1 (L7 l N2).text) N2)++h) (by rw[hc,Bool.true_and]) (W6 b1 b2 b3 b5 a _ c l T2 N2 1 (L7 l N2).text h _ hs hN2le)⟩) (fun hc=>(by rw[hc];rfl)) Lb ?_;refine kQ1 [1,2,3,7,65] ?_;refine wc (fun c65=>?_) fun c65=>?_
 have d65:((o&&!nmB l N)&&decide ((N2:Int) < l.length)&&next l N2 1 (L7 l N2).text)=true:=c65;have hM:=c6b hP hN c38 ho hNN hN2 hT2 d65;have hlt:N2 < l.length:=by simp at d65;omega
 have h2:=a3q hlt;refine a0G (h':=FL b1 b2 b3 b5 a l.length c T2 (N2+1)++h) (by rw[d65];rfl) ?_;refine kA2 ?_;refine xG (a0I Et Ek (by omega)) ?_;refine xG (H8 B3.und B3.size B3.posz (Ev.tmp rfl) (Ev.tmp rfl) Rr (q:=N2) (by omega) (by omega)) ?_;refine kA4 ?_;refine a8q (h':=FL b1 b2 b3 b5 a l.length c { T2 with proto:=(L7 l N2).text } (N2+1)++h) rfl ?_;refine WL.nil (E5 [(7,.bool o)] (h'':=FL b1 b2 b3 b5 a l.length c ({ T2 with proto:=(L7 l N2).text }) (N2+1)++h) ?_ Su Sb ⟨o,{ T2 with proto:=(L7 l N2).text },N2+1,⟨hM,(hT _ (List.mem_of_getElem? h2)).2⟩,rfl,rfl⟩);exact Su;have d65:((o&&!nmB l N)&&decide ((N2:Int) < l.length)&&next l N2 1 (L7 l N2).text)=false:=c65;have hM:=c6b hP hN c38 ho hNN hN2 hT2 d65;refine a0G (h':=FL b1 b2 b3 b5 a l.length c T2 N2++h) (by rw[d65];rfl) ?_
 refine WC.skip (E5 [(7,.bool o)] (h'':=FL b1 b2 b3 b5 a l.length c T2 N2++h) ?_ Su Sb ⟨o,T2,N2,⟨hM,by rw[<- hT2];cases o;exact Nat.zero_le _;cases named l N;exact Nat.zero_le _;exact Nat.zero_le _⟩,rfl,rfl⟩);exact Su;refine a0G (h':=FL b1 b2 b3 b5 a l.length c ⟨0,d,0,[]⟩ n++h) (by rw[c38];rfl) ?_;refine kA1 ?_;refine H5 (Ev.tmp rfl) (E2 Ek Ek) (W6 b1 b2 b3 b5 a _ c l ⟨0,d,0,[]⟩ n 2 a6o h _ hs hn) Lb ?_;rintro _ _ ⟨rfl,rfl⟩;refine kQ1 [2,3,7,73] ?_;refine wc (fun c73=>?_) fun c73=>?_
 refine a0G (h':=FL b1 b2 b3 b5 a l.length c ⟨0,d,0,[]⟩ (n+1)++h) (by rw[c73];rfl) ?_;refine kA2 ?_;refine a8q (h':=FL b1 b2 b3 b5 a l.length c ⟨5,d,0,[]⟩ (n+1)++h) rfl ?_;refine WL.nil (E5 [(7,.bool true)] (h'':=FL b1 b2 b3 b5 a l.length c (⟨5,d,0,[]⟩) (n+1)++h) ?_ Su Sb ⟨true,⟨5,d,0,[]⟩,n+1,⟨b4M hP hN c38 c73,Nat.zero_le _⟩,rfl,rfl⟩);exact Su;refine a0G (h':=FL b1 b2 b3 b5 a l.length c ⟨0,d,0,[]⟩ n++h) (by rw[c73];rfl) ?_;refine WC.skip (E5 [(7,.bool true)] (h'':=FL b1 b2 b3 b5 a l.length c (⟨0,d,0,[]⟩) n++h) ?_ Su Sb ⟨true,⟨0,d,0,[]⟩,n,⟨b9d hP hN c38 c73,Nat.zero_le _⟩,rfl,rfl⟩);exact Su;rintro _ _ ⟨okB,t,nB,⟨hM,hpl⟩,rfl,rfl⟩;refine C2 rfl ?_;refine kA3 ?_;refine zG (fun _=>pA b4O) ?_;refine B4 (GU.f rfl rfl) (fun hc=>⟨Ef,(E1 (Eg hc)),may_ct t _ _ hg hpl⟩) Lb ?_;refine kQ2 [2,3,83] ?_;refine wc (fun c83=>?_) fun c83=>?_
 have hF:=b6q hM c83;refine kQ4 [2,3,4] ?_;refine WC.ret (b2K (h':=h) (.inl rfl) rfl (L9 b4O rfl rfl rfl Me rfl) (a1g uu3 rfl rfl Me rfl) (RV.tmp rfl) Vl Sb ?_);exact⟨by rw[hF];rfl,rfl⟩;have hF:=b3L hM c83;refine WC.skip (kp [2,3] ?_);refine jE ?_;refine WC.take (r:=.pt b2 (.cells (M2 t).toArray 43 (0,0))) De ?_;refine H4 [0,2] (.op 1 (.op 0 (.op 2 .nil))) [3,4] _ [.pt b2 (.cells (M2 t).toArray 43 (0,0))] F3 (fun _ _ _ _ _ h=>h) [] (by kernel_rfl) ?_;refine kA1 ?_;refine b8g rfl rfl (fun fr=>U2 b4O rfl rfl Et (List.mem_append_right _ Me) rfl) Lb ?_;refine SR.store rfl rfl rfl Et Et rfl rfl rfl rfl Up ?_;refine SR.nil rfl rfl ?_;refine kQ2 [2,3,4] ?_;refine WC.ret (b2K (h':=h) (.inl rfl) rfl (L9 b4O rfl rfl rfl Me rfl) (a1g uu3 rfl rfl Me rfl) (RV.tmp rfl) Vl Sb ?_);exact⟨by rw[hF];rfl,rfl⟩
end
end Go.Proofs.YtkemgjnejlkkcaaGreatDoor.Ty9
namespace Go.Proofs.YtkemgjnejlkkcaaGreatDoor
section
open Go.Eng Go.Xp Go
open Go.Lx (encB D8)
theorem b9e (x:Ex):∀ (y:Ex) (h:List Res) (m:View),TOk m h x->TOk m h y->CT Tryz.prog 135 [exV x,exV y] h m (A9 h (.bool (C7 x y))):=by
 refine Ex.ind (p:=fun x=>∀ (y:Ex) (h:List Res) (m:View),TOk m h x->TOk m h y->CT Tryz.prog 135 [exV x,exV y] h m (A9 h (.bool (C7 x y)))) (fun x ih y h m hx hy=>?_) x;have r1:=hx.rd;have r2:=hy.rd;have mx:=r1.mx;have kx:=r1.le;have he:=b1R x y;refine CT.body Tryz.call135 Tryz.func135 rfl Tryz.ntmps135 Lb rfl ?_;refine j0 ?_;refine xX fun b2=>?_
 refine xX fun b3=>?_
 refine kQ1 [2,3] ?_;refine b1k ?_;refine b1k ?_;refine kA7 ?_;refine zG (fun hc=>W9 (Eg hc) (Eg hc)) ?_;refine c6V [2,3,47] ?_;refine wc (fun c47=>?_) fun c47=>?_
 replace c47:b2D x y=true:=c47;rw[c47] at he;refine kQ1 [4] ?_;refine wT h ?_;exact⟨by rw[he];rfl,rfl⟩;replace c47:b2D x y=false:=c47;rw[c47] at he;have hl:x.l.length=y.l.length:=by
  unfold b2D at c47;simp only[Bool.or_eq_false_iff,bne_eq_false_iff_eq] at c47;omega
 refine kQ0 [2,3] ?_;refine kQ4 [2,3,50,51] ?_;refine C0 [2,3,50] rfl (fun μ F' h'=>∃ k:Nat,(k<=x.l.length/\C7 x y=a2G (x.l.drop k) (y.l.drop k))/\x.l.length - k=μ/\F'=[(51,.int .i64 k)]/\.pt b3 (.cells (exE y).toArray 35 (0,0))::.pt b2 (.cells (exE x).toArray 35 (0,0))::h=h') (x.l.length - 0) [(51,.int .i64 0)] (h0:=.pt b3 (.cells (exE y).toArray 35 (0,0))::.pt b2 (.cells (exE x).toArray 35 (0,0))::h) ?_ Sb ⟨0,⟨by omega,by rw[he];rfl⟩,rfl,rfl,rfl⟩ ?_;exact Su;rintro _ _ _ ⟨k,⟨hk,hJ⟩,rfl,rfl,rfl⟩;refine C2 rfl ?_;have q1:Rd m (.pt b3 (.cells (exE y).toArray 35 (0,0))::.pt b2 (.cells (exE x).toArray 35 (0,0))::h) x.a x.l.length x.c 6 (fl exE x.l):=r1.mono Vl Sb;have q2:Rd m (.pt b3 (.cells (exE y).toArray 35 (0,0))::.pt b2 (.cells (exE x).toArray 35 (0,0))::h) y.a y.l.length y.c 6 (fl exE y.l):=r2.mono Vl Sb;refine kQ1 [2,3,50,51,52] ?_;refine wc (fun c52=>?_) fun c52=>?_
 replace c52:=dT c52;obtain⟨u,hu⟩:=A5 (l:=x.l) (k:=k) (by omega);obtain⟨v,hv⟩:=A5 (l:=y.l) (k:=k) (by omega);rw[b61 hu hv] at hJ;have mu:=List.mem_of_getElem? hu;have mv:=List.mem_of_getElem? hv;refine kQ0 [2,3,50,51] ?_;refine kQ2 [2,3,5,50,51] ?_;refine dS [] (.op 0 (.op 1 (.op 2 (.op 3 (.op 4 (.op 5 (.op 6 (.op 7 (.op 8 (.op 9 .nil)))))))))) [10,11] F3 ?_;refine b4X ?_;refine SR.nil rfl rfl ?_;refine xf (E2 Et Et) (ih u mu v _ _ ((hx.part mu).mono Sb) ((hy.part mv).mono Sb)) ?_;refine kQ1 [2,3,50,51,65] ?_;refine wc (fun c65=>?_) fun c65=>?_
 have d65:C7 u v=false:=by simpa using c65
 rw[d65] at hJ;refine kQ1 [4] ?_;refine wT h ?_;exact⟨by rw[hJ];rfl,rfl⟩;have d65:C7 u v=true:=by simpa using c65
 rw[d65] at hJ;refine kQ0 [2,3,50,51] ?_;refine kA2 ?_;refine WL.nil (B1 (x.l.length - (k+1)) [(51,.int .i64 (k+1))] (h'':=.pt b3 (.cells (exE y).toArray 35 (0,0))::.pt b2 (.cells (exE x).toArray 35 (0,0))::h) (by omega) ?_ Su Sb ⟨k+1,⟨by omega,by rw[hJ];rfl⟩,rfl,rfl,rfl⟩);exact Su;replace c52:=dF c52;rw[List.drop_eq_nil_of_le (by omega)] at hJ;refine kQ0 [] ?_;refine kQ1 [4] ?_;refine wT h ?_;exact⟨by rw[hJ];rfl,rfl⟩
theorem a2H (x:Ex):∀ (y:Ex) (h:List Res) (m:View),TOk m h x->TOk m h y->CT Tryz.prog 20 [exV x,exV y] h m (A9 h (.bool (C7 x y))):=by
 refine Ex.ind (p:=fun x=>∀ (y:Ex) (h:List Res) (m:View),TOk m h x->TOk m h y->CT Tryz.prog 20 [exV x,exV y] h m (A9 h (.bool (C7 x y)))) (fun x ih y h m hx hy=>?_) x;have r1:=hx.rd;have r2:=hy.rd;have mx:=r1.mx;have kx:=r1.le;have he:=b1R x y;refine CT.body Tryz.call20 Tryz.func20 rfl Tryz.ntmps20 Lb rfl ?_;refine j0 ?_;refine xX fun b2=>?_
 refine xX fun b3=>?_
 refine kQ1 [2,3] ?_;refine b1k ?_;refine b1k ?_;refine kA7 ?_;refine zG (fun hc=>W9 (Eg hc) (Eg hc)) ?_;refine c6V [2,3,47] ?_;refine wc (fun c47=>?_) fun c47=>?_
 replace c47:b2D x y=true:=c47;rw[c47] at he;refine kQ1 [4] ?_;refine wT h ?_;exact⟨by rw[he];rfl,rfl⟩;replace c47:b2D x y=false:=c47;rw[c47] at he;have hl:x.l.length=y.l.length:=by
  unfold b2D at c47;simp only[Bool.or_eq_false_iff,bne_eq_false_iff_eq] at c47;omega
 refine kQ0 [2,3] ?_;refine kQ1 [2,3,5] ?_;refine C0 [2,3] rfl (fun μ F' h'=>∃ k:Nat,(k<=x.l.length/\C7 x y=a2G (x.l.drop k) (y.l.drop k))/\x.l.length - k=μ/\F'=[(5,.int .i64 k)]/\.pt b3 (.cells (exE y).toArray 35 (0,0))::.pt b2 (.cells (exE x).toArray 35 (0,0))::h=h') (x.l.length - 0) [(5,.int .i64 0)] (h0:=.pt b3 (.cells (exE y).toArray 35 (0,0))::.pt b2 (.cells (exE x).toArray 35 (0,0))::h) ?_ Sb ⟨0,⟨by omega,by rw[he];rfl⟩,rfl,rfl,rfl⟩ ?_;exact Su;rintro _ _ _ ⟨k,⟨hk,hJ⟩,rfl,rfl,rfl⟩;refine C2 rfl ?_;have q1:Rd m (.pt b3 (.cells (exE y).toArray 35 (0,0))::.pt b2 (.cells (exE x).toArray 35 (0,0))::h) x.a x.l.length x.c 6 (fl exE x.l):=r1.mono Vl Sb;have q2:Rd m (.pt b3 (.cells (exE y).toArray 35 (0,0))::.pt b2 (.cells (exE x).toArray 35 (0,0))::h) y.a y.l.length y.c 6 (fl exE y.l):=r2.mono Vl Sb;refine kQ5 [2,3,5,52] ?_;refine wc (fun c52=>?_) fun c52=>?_
 replace c52:=dT c52;obtain⟨u,hu⟩:=A5 (l:=x.l) (k:=k) (by omega);obtain⟨v,hv⟩:=A5 (l:=y.l) (k:=k) (by omega);rw[b61 hu hv] at hJ;have mu:=List.mem_of_getElem? hu;have mv:=List.mem_of_getElem? hv;refine kQ0 [2,3,5] ?_;refine dS [] (.op 0 (.op 1 (.op 2 (.op 3 (.op 4 (.op 5 (.op 6 (.op 7 (.op 8 (.op 9 .nil)))))))))) [10,11] F3 ?_;refine b4X ?_;refine SR.nil rfl rfl ?_;refine xf (E2 Et Et) (ih u mu v _ _ ((hx.part mu).mono Sb) ((hy.part mv).mono Sb)) ?_;refine kQ1 [2,3,5,66] ?_;refine wc (fun c66=>?_) fun c66=>?_
 have d65:C7 u v=false:=by simpa using c66
 rw[d65] at hJ;refine kQ1 [4] ?_;refine wT h ?_;exact⟨by rw[hJ];rfl,rfl⟩;have d65:C7 u v=true:=by simpa using c66
 rw[d65] at hJ;refine kQ0 [2,3,5] ?_;refine kA3 ?_;refine WL.nil (B1 (x.l.length - (k+1)) [(5,.int .i64 (k+1))] (h'':=.pt b3 (.cells (exE y).toArray 35 (0,0))::.pt b2 (.cells (exE x).toArray 35 (0,0))::h) (by omega) ?_ Su Sb ⟨k+1,⟨by omega,by rw[hJ];rfl⟩,rfl,rfl,rfl⟩);exact Su;replace c52:=dF c52;rw[List.drop_eq_nil_of_le (by omega)] at hJ;refine kQ0 [] ?_;refine kQ1 [4] ?_;refine wT h ?_;exact⟨by rw[hJ];rfl,rfl⟩
end
section
open Go.Eng Go.Pc Go
open Go.Xp hiding B D3
open Go.Ty (Ty Vr eqT tyV M2 PrOk VOk prL encV F8 Q3 F1)
open Go.Lx (encB D8)
theorem a98 (lo hi n:Int) (h:List Res) (m:View):CT Tryz.prog 79 [.agg #[.int .i64 lo,.int .i64 hi],.int .i64 n] h m (A9 h (.bool (a4y lo hi n))):=by
 refine CT.body Tryz.call79 Tryz.func79 rfl Tryz.ntmps79 Lb rfl ?_;refine j0 ?_;refine xX fun b2=>?_
 refine kQ1 [1,2] ?_;refine c6A [4] ?_;refine wT h ?_;exact⟨rfl,rfl⟩
theorem c3s (q:FuncId) (cap:List Value) (pr:Ex->Bool) (a:Option Addr) (k c:Nat) (l:List Ex) (h:List Res) (m:View) (hq:∀ x ∈ l,CT Tryz.prog q ([exV x]++cap) h m (A9 h (.bool (pr x)))) (hs:Rd m h a k c 6 (fl exE l)) :
 CT Tryz.prog 189 [.slice a k c,.func (.func q) #[] cap.toArray] h m (A9 h (.int .i64 (Go.Ty.idxF pr l 0))):=by
 have hl:=hs.lenF a7b (by decide);have hmx:=hs.mx;have hle:=hs.le;refine CT.body Tryz.call189 Tryz.func189 rfl Tryz.ntmps189 Lb rfl ?_;refine kQ1 [0,1] ?_;refine kQ3 [0,1,7,8] ?_;refine C0 [0,1,7] rfl (fun μ F' h'=>∃ j:Nat,(j<=k/\Go.Ty.idxF pr l 0=Go.Ty.idxF pr (l.drop j) j)/\k - j=μ/\F'=[(8,.int .i64 j)]/\h=h') (k - 0) [(8,.int .i64 0)] (h0:=h) ?_ Sb ⟨0,⟨by omega,rfl⟩,rfl,rfl,rfl⟩ ?_;exact Su;rintro _ _ _ ⟨j,⟨hk,hJ⟩,rfl,rfl,rfl⟩;refine C2 rfl ?_;refine kQ1 [0,1,7,8,9] ?_;refine wc (fun c9=>?_) fun c9=>?_
 replace c9:=dT c9;obtain⟨x,hx⟩:=A5 (l:=l) (k:=j) (by omega);rw[Go.Ty.idxF_drop pr hx] at hJ;refine kQ0 [0,1,7,8] ?_;refine kQ2 [0,1,5,7,8] ?_;refine kA5 ?_;refine Q9 (Ev.tmp rfl) (E1 (Ev.tmp rfl)) (hq x (List.mem_of_getElem? hx)) Lb ?_;refine kQ0 [0,1,5,7,8,16] ?_;refine wc (fun c16=>?_) fun c16=>?_
 rw[c16] at hJ;refine kQ2 [4] ?_;refine wT h ?_;exact⟨by rw[hJ];rfl,rfl⟩;rw[c16] at hJ;refine kQ0 [0,1,7,8] ?_;refine kA2 ?_;refine WL.nil (B1 (k - (j+1)) [(8,.int .i64 (j+1))] (h'':=h) (by omega) ?_ Su Sb ⟨j+1,⟨by omega,by simpa using hJ⟩,rfl,rfl,rfl⟩);exact Su;replace c9:=dF c9;rw[List.drop_eq_nil_of_le (by omega)] at hJ;refine kQ0 [] ?_;refine kQ1 [4] ?_;refine wT h ?_;exact⟨by rw[hJ];rfl,rfl⟩
theorem c2Z (q:FuncId) (cap:List Value) (pr:Ex->Bool) (a:Option Addr) (k c:Nat) (l:List Ex) (h:List Res) (m:View) (hq:∀ x ∈ l,CT Tryz.prog q ([exV x]++cap) h m (A9 h (.bool (pr x)))) (hs:Rd m h a k c 6 (fl exE l)) :
 CT Tryz.prog 141 [.slice a k c,.func (.func q) #[] cap.toArray] h m (A9 h (.bool (l.any pr))):=by
 refine CT.body Tryz.call141 Tryz.func141 rfl Tryz.ntmps141 Lb rfl ?_;refine kQ1 [0,1] ?_;refine kA2 ?_;refine xf (E2 Et Et) (c3s q cap pr _ _ _ l _ _ hq hs) ?_;refine kQ2 [4] ?_;refine wT h ?_;exact⟨congrArg Value.bool (Go.Ty.idxF_any pr l 0 (by decide)),rfl⟩
theorem b7P (q0:FuncId) (c0:List Value) (b:Nat) (x:Ex) (v:Bool) (h:List Res) (m:View) (hb:Res.pt b (.cells [.func (.func q0) #[] c0.toArray].toArray 143 (0,0)) ∈ h) (hq:∀ h',h.Sublist h'->CT Tryz.prog q0 ([exV x]++c0) h' m (A9 h' (.bool v))) :
 CT Tryz.prog 142 [exV x,.pointer (some ⟨b,0,none⟩)] h m (A9 h (.bool (!v))):=by
 refine CT.body Tryz.call142 Tryz.func142 rfl Tryz.ntmps142 Lb rfl ?_;refine j0 ?_;refine xX fun b2=>?_
 refine kQ1 [1,2] ?_;refine xG (E6 c9g rfl Et (List.Mem.tail _ hb) rfl) ?_;refine kA1 ?_;refine Q9 (Ev.tmp rfl) (E1 (Ev.tmp rfl)) (hq _ Sb) Lb ?_;refine kQ2 [3] ?_;refine wT h ?_;exact⟨rfl,rfl⟩
theorem a7i (q0:FuncId) (c0:List Value) (pr:Ex->Bool) (lo hi:Int) (a:Option Addr) (k c:Nat) (l:List Ex) (h:List Res) (m:View) (hq:∀ x ∈ l,∀ h',h.Sublist h'->CT Tryz.prog q0 ([exV x]++c0) h' m (A9 h' (.bool (pr x)))) (hs:Rd m h a k c 6 (fl exE l)) :
 CT Tryz.prog 84 [.slice a k c,.agg #[.int .i64 lo,.int .i64 hi],.func (.func q0) #[] c0.toArray] h m (A9 h (.bool (G2 l lo hi pr))):=by
 have hl:=hs.lenF a7b (by decide);subst hl;refine CT.body Tryz.call84 Tryz.func84 rfl Tryz.ntmps84 Lb rfl ?_;refine j0 ?_;refine xX fun b4=>?_
 refine xX fun b5=>?_
 refine kQ1 [0,4,5] ?_;refine kA3 ?_;refine xf (E2 Et Et) (a98 lo hi l.length _ _) ?_;refine kA2 ?_;refine zG (fun _=>PO.makeFunc Evs.nil (E1 Et)) ?_;refine B4 (GU.t rfl rfl) (fun hc=>⟨Ef,(E2 (Eg hc) (Eg hc)),c2Z 142 [.pointer (some ⟨b5,0,none⟩)] (fun x=>!pr x) _ _ _ l _ _ (fun x hx=>b7P q0 c0 b5 x (pr x) _ _ Me (fun h' hh=>hq x hx h' (List.Sublist.trans Sb hh))) (hs.mono Vl Sb)⟩) Lb ?_;refine kQ3 [6] ?_;refine wT h ?_;exact⟨rfl,rfl⟩
theorem c3m (q:FuncId) (cap:List Value) (pr:Gu->Bool) (a:Option Addr) (k c:Nat) (l:List Gu) (h:List Res) (m:View) (hq:∀ x ∈ l,CT Tryz.prog q ([guV x]++cap) h m (A9 h (.bool (pr x)))) (hs:Rd m h a k c 23 (fl guE l)) :
 CT Tryz.prog 188 [.slice a k c,.func (.func q) #[] cap.toArray] h m (A9 h (.int .i64 (Go.Ty.idxF pr l 0))):=by
 have hl:=hs.lenF a8K (by decide);have hmx:=hs.mx;have hle:=hs.le;refine CT.body Tryz.call188 Tryz.func188 rfl Tryz.ntmps188 Lb rfl ?_;refine kQ1 [0,1] ?_;refine kQ3 [0,1,7,8] ?_;refine C0 [0,1,7] rfl (fun μ F' h'=>∃ j:Nat,(j<=k/\Go.Ty.idxF pr l 0=Go.Ty.idxF pr (l.drop j) j)/\k - j=μ/\F'=[(8,.int .i64 j)]/\h=h') (k - 0) [(8,.int .i64 0)] (h0:=h) ?_ Sb ⟨0,⟨by omega,rfl⟩,rfl,rfl,rfl⟩ ?_;exact Su;rintro _ _ _ ⟨j,⟨hk,hJ⟩,rfl,rfl,rfl⟩;refine C2 rfl ?_;refine kQ1 [0,1,7,8,9] ?_;refine wc (fun c9=>?_) fun c9=>?_
 replace c9:=dT c9;obtain⟨x,hx⟩:=A5 (l:=l) (k:=j) (by omega);rw[Go.Ty.idxF_drop pr hx] at hJ;refine kQ0 [0,1,7,8] ?_;refine kQ2 [0,1,5,7,8] ?_;refine kA5 ?_;refine Q9 (Ev.tmp rfl) (E1 (Ev.tmp rfl)) (hq x (List.mem_of_getElem? hx)) Lb ?_;refine kQ0 [0,1,5,7,8,16] ?_;refine wc (fun c16=>?_) fun c16=>?_
 rw[c16] at hJ;refine kQ2 [4] ?_;refine wT h ?_;exact⟨by rw[hJ];rfl,rfl⟩;rw[c16] at hJ;refine kQ0 [0,1,7,8] ?_;refine kA2 ?_;refine WL.nil (B1 (k - (j+1)) [(8,.int .i64 (j+1))] (h'':=h) (by omega) ?_ Su Sb ⟨j+1,⟨by omega,by simpa using hJ⟩,rfl,rfl,rfl⟩);exact Su;replace c9:=dF c9;rw[List.drop_eq_nil_of_le (by omega)] at hJ;refine kQ0 [] ?_;refine kQ1 [4] ?_;refine wT h ?_;exact⟨by rw[hJ];rfl,rfl⟩
theorem c4p (q:FuncId) (cap:List Value) (pr:Gu->Bool) (a:Option Addr) (k c:Nat) (l:List Gu) (h:List Res) (m:View) (hq:∀ x ∈ l,CT Tryz.prog q ([guV x]++cap) h m (A9 h (.bool (pr x)))) (hs:Rd m h a k c 23 (fl guE l)) :
 CT Tryz.prog 138 [.slice a k c,.func (.func q) #[] cap.toArray] h m (A9 h (.bool (l.any pr))):=by
 refine CT.body Tryz.call138 Tryz.func138 rfl Tryz.ntmps138 Lb rfl ?_;refine kQ1 [0,1] ?_;refine kA2 ?_;refine xf (E2 Et Et) (c3m q cap pr _ _ _ l _ _ hq hs) ?_;refine kQ2 [4] ?_;refine wT h ?_;exact⟨congrArg Value.bool (Go.Ty.idxF_any pr l 0 (by decide)),rfl⟩
theorem b7I (q0:FuncId) (c0:List Value) (b:Nat) (x:Gu) (v:Bool) (h:List Res) (m:View) (hb:Res.pt b (.cells [.func (.func q0) #[] c0.toArray].toArray 151 (0,0)) ∈ h) (hq:∀ h',h.Sublist h'->CT Tryz.prog q0 ([guV x]++c0) h' m (A9 h' (.bool v))) :
 CT Tryz.prog 139 [guV x,.pointer (some ⟨b,0,none⟩)] h m (A9 h (.bool (!v))):=by
 refine CT.body Tryz.call139 Tryz.func139 rfl Tryz.ntmps139 Lb rfl ?_;refine j0 ?_;refine xX fun b2=>?_
 refine kQ1 [1,2] ?_;refine xG (E6 c9j rfl Et (List.Mem.tail _ hb) rfl) ?_;refine kA1 ?_;refine Q9 (Ev.tmp rfl) (E1 (Ev.tmp rfl)) (hq _ Sb) Lb ?_;refine kQ2 [3] ?_;refine wT h ?_;exact⟨rfl,rfl⟩
theorem c0B (q0:FuncId) (c0:List Value) (pr:Gu->Bool) (lo hi:Int) (a:Option Addr) (k c:Nat) (l:List Gu) (h:List Res) (m:View) (hq:∀ x ∈ l,∀ h',h.Sublist h'->CT Tryz.prog q0 ([guV x]++c0) h' m (A9 h' (.bool (pr x)))) (hs:Rd m h a k c 23 (fl guE l)) :
 CT Tryz.prog 80 [.slice a k c,.agg #[.int .i64 lo,.int .i64 hi],.func (.func q0) #[] c0.toArray] h m (A9 h (.bool (G2 l lo hi pr))):=by
 have hl:=hs.lenF a8K (by decide);subst hl;refine CT.body Tryz.call80 Tryz.func80 rfl Tryz.ntmps80 Lb rfl ?_;refine j0 ?_;refine xX fun b4=>?_
 refine xX fun b5=>?_
 refine kQ1 [0,4,5] ?_;refine kA3 ?_;refine xf (E2 Et Et) (a98 lo hi l.length _ _) ?_;refine kA2 ?_;refine zG (fun _=>PO.makeFunc Evs.nil (E1 Et)) ?_;refine B4 (GU.t rfl rfl) (fun hc=>⟨Ef,(E2 (Eg hc) (Eg hc)),c4p 139 [.pointer (some ⟨b5,0,none⟩)] (fun x=>!pr x) _ _ _ l _ _ (fun x hx=>b7I q0 c0 b5 x (pr x) _ _ Me (fun h' hh=>hq x hx h' (List.Sublist.trans Sb hh))) (hs.mono Vl Sb)⟩) Lb ?_;refine kQ3 [6] ?_;refine wT h ?_;exact⟨rfl,rfl⟩
theorem c5I (q:FuncId) (cap:List Value) (pr:Int->Bool) (a:Option Addr) (k c:Nat) (l:List Int) (h:List Res) (m:View) (hq:∀ x ∈ l,CT Tryz.prog q ([.int .i64 x]++cap) h m (A9 h (.bool (pr x)))) (hs:Rd m h a k c 1 (fl a6p l)) :
 CT Tryz.prog 191 [.slice a k c,.func (.func q) #[] cap.toArray] h m (A9 h (.int .i64 (Go.Ty.idxF pr l 0))):=by
 have hl:=hs.lenF b2o (by decide);have hmx:=hs.mx;have hle:=hs.le;refine CT.body Tryz.call191 Tryz.func191 rfl Tryz.ntmps191 Lb rfl ?_;refine kQ1 [0,1] ?_;refine kQ3 [0,1,7,8] ?_;refine C0 [0,1,7] rfl (fun μ F' h'=>∃ j:Nat,(j<=k/\Go.Ty.idxF pr l 0=Go.Ty.idxF pr (l.drop j) j)/\k - j=μ/\F'=[(8,.int .i64 j)]/\h=h') (k - 0) [(8,.int .i64 0)] (h0:=h) ?_ Sb ⟨0,⟨by omega,rfl⟩,rfl,rfl,rfl⟩ ?_;exact Su;rintro _ _ _ ⟨j,⟨hk,hJ⟩,rfl,rfl,rfl⟩;refine C2 rfl ?_;refine kQ1 [0,1,7,8,9] ?_;refine wc (fun c9=>?_) fun c9=>?_
 replace c9:=dT c9;obtain⟨x,hx⟩:=A5 (l:=l) (k:=j) (by omega);rw[Go.Ty.idxF_drop pr hx] at hJ;refine kQ0 [0,1,7,8] ?_;refine kQ2 [0,1,5,7,8] ?_;refine kA5 ?_;refine Q9 (Ev.tmp rfl) (E1 (Ev.tmp rfl)) (hq x (List.mem_of_getElem? hx)) Lb ?_;refine kQ0 [0,1,5,7,8,16] ?_;refine wc (fun c16=>?_) fun c16=>?_
 rw[c16] at hJ;refine kQ2 [4] ?_;refine wT h ?_;exact⟨by rw[hJ];rfl,rfl⟩;rw[c16] at hJ;refine kQ0 [0,1,7,8] ?_;refine kA2 ?_;refine WL.nil (B1 (k - (j+1)) [(8,.int .i64 (j+1))] (h'':=h) (by omega) ?_ Su Sb ⟨j+1,⟨by omega,by simpa using hJ⟩,rfl,rfl,rfl⟩);exact Su;replace c9:=dF c9;rw[List.drop_eq_nil_of_le (by omega)] at hJ;refine kQ0 [] ?_;refine kQ1 [4] ?_;refine wT h ?_;exact⟨by rw[hJ];rfl,rfl⟩
theorem c4x (q:FuncId) (cap:List Value) (pr:Int->Bool) (a:Option Addr) (k c:Nat) (l:List Int) (h:List Res) (m:View) (hq:∀ x ∈ l,CT Tryz.prog q ([.int .i64 x]++cap) h m (A9 h (.bool (pr x)))) (hs:Rd m h a k c 1 (fl a6p l)) :
 CT Tryz.prog 145 [.slice a k c,.func (.func q) #[] cap.toArray] h m (A9 h (.bool (l.any pr))):=by
 refine CT.body Tryz.call145 Tryz.func145 rfl Tryz.ntmps145 Lb rfl ?_;refine kQ1 [0,1] ?_;refine kA2 ?_;refine xf (E2 Et Et) (c5I q cap pr _ _ _ l _ _ hq hs) ?_;refine kQ2 [4] ?_;refine wT h ?_;exact⟨congrArg Value.bool (Go.Ty.idxF_any pr l 0 (by decide)),rfl⟩
theorem b8B (q0:FuncId) (c0:List Value) (b:Nat) (x:Int) (v:Bool) (h:List Res) (m:View) (hb:Res.pt b (.cells [.func (.func q0) #[] c0.toArray].toArray 122 (0,0)) ∈ h) (hq:∀ h',h.Sublist h'->CT Tryz.prog q0 ([.int .i64 x]++c0) h' m (A9 h' (.bool v))) :
 CT Tryz.prog 146 [.int .i64 x,.pointer (some ⟨b,0,none⟩)] h m (A9 h (.bool (!v))):=by
 refine CT.body Tryz.call146 Tryz.func146 rfl Tryz.ntmps146 Lb rfl ?_;refine kQ1 [0,1] ?_;refine xG (E6 c9r rfl Et hb rfl) ?_;refine kA1 ?_;refine Q9 (Ev.tmp rfl) (E1 (Ev.tmp rfl)) (hq _ Sb) Lb ?_;refine kQ2 [3] ?_;refine wT h ?_;exact⟨rfl,rfl⟩
theorem c1H (q0:FuncId) (c0:List Value) (pr:Int->Bool) (lo hi:Int) (a:Option Addr) (k c:Nat) (l:List Int) (h:List Res) (m:View) (hq:∀ x ∈ l,∀ h',h.Sublist h'->CT Tryz.prog q0 ([.int .i64 x]++c0) h' m (A9 h' (.bool (pr x)))) (hs:Rd m h a k c 1 (fl a6p l)) :
 CT Tryz.prog 86 [.slice a k c,.agg #[.int .i64 lo,.int .i64 hi],.func (.func q0) #[] c0.toArray] h m (A9 h (.bool (G2 l lo hi pr))):=by
 have hl:=hs.lenF b2o (by decide);subst hl;refine CT.body Tryz.call86 Tryz.func86 rfl Tryz.ntmps86 Lb rfl ?_;refine j0 ?_;refine xX fun b4=>?_
 refine xX fun b5=>?_
 refine kQ1 [0,4,5] ?_;refine kA3 ?_;refine xf (E2 Et Et) (a98 lo hi l.length _ _) ?_;refine kA2 ?_;refine zG (fun _=>PO.makeFunc Evs.nil (E1 Et)) ?_;refine B4 (GU.t rfl rfl) (fun hc=>⟨Ef,(E2 (Eg hc) (Eg hc)),c4x 146 [.pointer (some ⟨b5,0,none⟩)] (fun x=>!pr x) _ _ _ l _ _ (fun x hx=>b8B q0 c0 b5 x (pr x) _ _ Me (fun h' hh=>hq x hx h' (List.Sublist.trans Sb hh))) (hs.mono Vl Sb)⟩) Lb ?_;refine kQ3 [6] ?_;refine wT h ?_;exact⟨rfl,rfl⟩
theorem c5H (q:FuncId) (cap:List Value) (pr:Fo->Bool) (a:Option Addr) (k c:Nat) (l:List Fo) (h:List Res) (m:View) (hq:∀ x ∈ l,CT Tryz.prog q ([foV x]++cap) h m (A9 h (.bool (pr x)))) (hs:Rd m h a k c 6 (fl foE l)) :
 CT Tryz.prog 235 [.slice a k c,.func (.func q) #[] cap.toArray] h m (A9 h (.int .i64 (Go.Ty.idxF pr l 0))):=by
 have hl:=hs.lenF a79 (by decide);have hmx:=hs.mx;have hle:=hs.le;refine CT.body Tryz.call235 Tryz.func235 rfl Tryz.ntmps235 Lb rfl ?_;refine kQ1 [0,1] ?_;refine kQ3 [0,1,7,8] ?_;refine C0 [0,1,7] rfl (fun μ F' h'=>∃ j:Nat,(j<=k/\Go.Ty.idxF pr l 0=Go.Ty.idxF pr (l.drop j) j)/\k - j=μ/\F'=[(8,.int .i64 j)]/\h=h') (k - 0) [(8,.int .i64 0)] (h0:=h) ?_ Sb ⟨0,⟨by omega,rfl⟩,rfl,rfl,rfl⟩ ?_;exact Su;rintro _ _ _ ⟨j,⟨hk,hJ⟩,rfl,rfl,rfl⟩;refine C2 rfl ?_;refine kQ1 [0,1,7,8,9] ?_;refine wc (fun c9=>?_) fun c9=>?_
 replace c9:=dT c9;obtain⟨x,hx⟩:=A5 (l:=l) (k:=j) (by omega);rw[Go.Ty.idxF_drop pr hx] at hJ;refine kQ0 [0,1,7,8] ?_;refine kQ2 [0,1,5,7,8] ?_;refine kA5 ?_;refine Q9 (Ev.tmp rfl) (E1 (Ev.tmp rfl)) (hq x (List.mem_of_getElem? hx)) Lb ?_;refine kQ0 [0,1,5,7,8,16] ?_;refine wc (fun c16=>?_) fun c16=>?_
 rw[c16] at hJ;refine kQ2 [4] ?_;refine wT h ?_;exact⟨by rw[hJ];rfl,rfl⟩;rw[c16] at hJ;refine kQ0 [0,1,7,8] ?_;refine kA2 ?_;refine WL.nil (B1 (k - (j+1)) [(8,.int .i64 (j+1))] (h'':=h) (by omega) ?_ Su Sb ⟨j+1,⟨by omega,by simpa using hJ⟩,rfl,rfl,rfl⟩);exact Su;replace c9:=dF c9;rw[List.drop_eq_nil_of_le (by omega)] at hJ;refine kQ0 [] ?_;refine kQ1 [4] ?_;refine wT h ?_;exact⟨by rw[hJ];rfl,rfl⟩
theorem c3J (q:FuncId) (cap:List Value) (pr:Fo->Bool) (a:Option Addr) (k c:Nat) (l:List Fo) (h:List Res) (m:View) (hq:∀ x ∈ l,CT Tryz.prog q ([foV x]++cap) h m (A9 h (.bool (pr x)))) (hs:Rd m h a k c 6 (fl foE l)) :
 CT Tryz.prog 196 [.slice a k c,.func (.func q) #[] cap.toArray] h m (A9 h (.bool (l.any pr))):=by
 refine CT.body Tryz.call196 Tryz.func196 rfl Tryz.ntmps196 Lb rfl ?_;refine kQ1 [0,1] ?_;refine kA2 ?_;refine xf (E2 Et Et) (c5H q cap pr _ _ _ l _ _ hq hs) ?_;refine kQ2 [4] ?_;refine wT h ?_;exact⟨congrArg Value.bool (Go.Ty.idxF_any pr l 0 (by decide)),rfl⟩
theorem b8Q (q0:FuncId) (c0:List Value) (b:Nat) (x:Fo) (v:Bool) (h:List Res) (m:View) (hb:Res.pt b (.cells [.func (.func q0) #[] c0.toArray].toArray 207 (0,0)) ∈ h) (hq:∀ h',h.Sublist h'->CT Tryz.prog q0 ([foV x]++c0) h' m (A9 h' (.bool v))) :
 CT Tryz.prog 197 [foV x,.pointer (some ⟨b,0,none⟩)] h m (A9 h (.bool (!v))):=by
 refine CT.body Tryz.call197 Tryz.func197 rfl Tryz.ntmps197 Lb rfl ?_;refine j0 ?_;refine xX fun b2=>?_
 refine kQ1 [1,2] ?_;refine xG (E6 c9t rfl Et (List.Mem.tail _ hb) rfl) ?_;refine kA1 ?_;refine Q9 (Ev.tmp rfl) (E1 (Ev.tmp rfl)) (hq _ Sb) Lb ?_;refine kQ2 [3] ?_;refine wT h ?_;exact⟨rfl,rfl⟩
theorem c0j (q0:FuncId) (c0:List Value) (pr:Fo->Bool) (lo hi:Int) (a:Option Addr) (k c:Nat) (l:List Fo) (h:List Res) (m:View) (hq:∀ x ∈ l,∀ h',h.Sublist h'->CT Tryz.prog q0 ([foV x]++c0) h' m (A9 h' (.bool (pr x)))) (hs:Rd m h a k c 6 (fl foE l)) :
 CT Tryz.prog 150 [.slice a k c,.agg #[.int .i64 lo,.int .i64 hi],.func (.func q0) #[] c0.toArray] h m (A9 h (.bool (G2 l lo hi pr))):=by
 have hl:=hs.lenF a79 (by decide);subst hl;refine CT.body Tryz.call150 Tryz.func150 rfl Tryz.ntmps150 Lb rfl ?_;refine j0 ?_;refine xX fun b4=>?_
 refine xX fun b5=>?_
 refine kQ1 [0,4,5] ?_;refine kA3 ?_;refine xf (E2 Et Et) (a98 lo hi l.length _ _) ?_;refine kA2 ?_;refine zG (fun _=>PO.makeFunc Evs.nil (E1 Et)) ?_;refine B4 (GU.t rfl rfl) (fun hc=>⟨Ef,(E2 (Eg hc) (Eg hc)),c3J 197 [.pointer (some ⟨b5,0,none⟩)] (fun x=>!pr x) _ _ _ l _ _ (fun x hx=>b8Q q0 c0 b5 x (pr x) _ _ Me (fun h' hh=>hq x hx h' (List.Sublist.trans Sb hh))) (hs.mono Vl Sb)⟩) Lb ?_;refine kQ3 [6] ?_;refine wT h ?_;exact⟨rfl,rfl⟩
theorem c3c (q:FuncId) (cap:List Value) (pr:B->Bool) (a:Option Addr) (k c:Nat) (l:List B) (h:List Res) (m:View) (hq:∀ x ∈ l,CT Tryz.prog q ([str x]++cap) h m (A9 h (.bool (pr x)))) (hs:Rd m h a k c 1 (fl encB l)) :
 CT Tryz.prog 236 [.slice a k c,.func (.func q) #[] cap.toArray] h m (A9 h (.int .i64 (Go.Ty.idxF pr l 0))):=by
 have hl:=hs.lenF D8 (by decide);have hmx:=hs.mx;have hle:=hs.le;refine CT.body Tryz.call236 Tryz.func236 rfl Tryz.ntmps236 Lb rfl ?_;refine kQ1 [0,1] ?_;refine kQ3 [0,1,7,8] ?_;refine C0 [0,1,7] rfl (fun μ F' h'=>∃ j:Nat,(j<=k/\Go.Ty.idxF pr l 0=Go.Ty.idxF pr (l.drop j) j)/\k - j=μ/\F'=[(8,.int .i64 j)]/\h=h') (k - 0) [(8,.int .i64 0)] (h0:=h) ?_ Sb ⟨0,⟨by omega,rfl⟩,rfl,rfl,rfl⟩ ?_;exact Su;rintro _ _ _ ⟨j,⟨hk,hJ⟩,rfl,rfl,rfl⟩;refine C2 rfl ?_;refine kQ1 [0,1,7,8,9] ?_;refine wc (fun c9=>?_) fun c9=>?_
 replace c9:=dT c9;obtain⟨x,hx⟩:=A5 (l:=l) (k:=j) (by omega);rw[Go.Ty.idxF_drop pr hx] at hJ;refine kQ0 [0,1,7,8] ?_;refine kQ2 [0,1,5,7,8] ?_;refine kA5 ?_;refine Q9 (Ev.tmp rfl) (E1 (Ev.tmp rfl)) (hq x (List.mem_of_getElem? hx)) Lb ?_;refine kQ0 [0,1,5,7,8,16] ?_;refine wc (fun c16=>?_) fun c16=>?_
 rw[c16] at hJ;refine kQ2 [4] ?_;refine wT h ?_;exact⟨by rw[hJ];rfl,rfl⟩;rw[c16] at hJ;refine kQ0 [0,1,7,8] ?_;refine kA2 ?_;refine WL.nil (B1 (k - (j+1)) [(8,.int .i64 (j+1))] (h'':=h) (by omega) ?_ Su Sb ⟨j+1,⟨by omega,by simpa using hJ⟩,rfl,rfl,rfl⟩);exact Su;replace c9:=dF c9;rw[List.drop_eq_nil_of_le (by omega)] at hJ;refine kQ0 [] ?_;refine kQ1 [4] ?_;refine wT h ?_;exact⟨by rw[hJ];rfl,rfl⟩
theorem c5V (q:FuncId) (cap:List Value) (pr:B->Bool) (a:Option Addr) (k c:Nat) (l:List B) (h:List Res) (m:View) (hq:∀ x ∈ l,CT Tryz.prog q ([str x]++cap) h m (A9 h (.bool (pr x)))) (hs:Rd m h a k c 1 (fl encB l)) :
 CT Tryz.prog 198 [.slice a k c,.func (.func q) #[] cap.toArray] h m (A9 h (.bool (l.any pr))):=by
 refine CT.body Tryz.call198 Tryz.func198 rfl Tryz.ntmps198 Lb rfl ?_;refine kQ1 [0,1] ?_;refine kA2 ?_;refine xf (E2 Et Et) (c3c q cap pr _ _ _ l _ _ hq hs) ?_;refine kQ2 [4] ?_;refine wT h ?_;exact⟨congrArg Value.bool (Go.Ty.idxF_any pr l 0 (by decide)),rfl⟩
theorem b8A (q0:FuncId) (c0:List Value) (b:Nat) (x:B) (v:Bool) (h:List Res) (m:View) (hb:Res.pt b (.cells [.func (.func q0) #[] c0.toArray].toArray 63 (0,0)) ∈ h) (hq:∀ h',h.Sublist h'->CT Tryz.prog q0 ([str x]++c0) h' m (A9 h' (.bool v))) :
 CT Tryz.prog 199 [str x,.pointer (some ⟨b,0,none⟩)] h m (A9 h (.bool (!v))):=by
 refine CT.body Tryz.call199 Tryz.func199 rfl Tryz.ntmps199 Lb rfl ?_;refine kQ1 [0,1] ?_;refine xG (E6 d24 rfl Et hb rfl) ?_;refine kA1 ?_;refine Q9 (Ev.tmp rfl) (E1 (Ev.tmp rfl)) (hq _ Sb) Lb ?_;refine kQ2 [3] ?_;refine wT h ?_;exact⟨rfl,rfl⟩
theorem c0t (q0:FuncId) (c0:List Value) (pr:B->Bool) (lo hi:Int) (a:Option Addr) (k c:Nat) (l:List B) (h:List Res) (m:View) (hq:∀ x ∈ l,∀ h',h.Sublist h'->CT Tryz.prog q0 ([str x]++c0) h' m (A9 h' (.bool (pr x)))) (hs:Rd m h a k c 1 (fl encB l)) :
 CT Tryz.prog 152 [.slice a k c,.agg #[.int .i64 lo,.int .i64 hi],.func (.func q0) #[] c0.toArray] h m (A9 h (.bool (G2 l lo hi pr))):=by
 have hl:=hs.lenF D8 (by decide);subst hl;refine CT.body Tryz.call152 Tryz.func152 rfl Tryz.ntmps152 Lb rfl ?_;refine j0 ?_;refine xX fun b4=>?_
 refine xX fun b5=>?_
 refine kQ1 [0,4,5] ?_;refine kA3 ?_;refine xf (E2 Et Et) (a98 lo hi l.length _ _) ?_;refine kA2 ?_;refine zG (fun _=>PO.makeFunc Evs.nil (E1 Et)) ?_;refine B4 (GU.t rfl rfl) (fun hc=>⟨Ef,(E2 (Eg hc) (Eg hc)),c5V 199 [.pointer (some ⟨b5,0,none⟩)] (fun x=>!pr x) _ _ _ l _ _ (fun x hx=>b8A q0 c0 b5 x (pr x) _ _ Me (fun h' hh=>hq x hx h' (List.Sublist.trans Sb hh))) (hs.mono Vl Sb)⟩) Lb ?_;refine kQ3 [6] ?_;refine wT h ?_;exact⟨rfl,rfl⟩
end
section
open Go.Eng Go.Pc Go
open Go.Xp hiding B D3
open Go.Ty (Ty Vr eqT tyV M2 PrOk VOk prL encV F8 Q3 F1)
open Go.Lx (encB D8)
theorem a3o (u a z:Bool) (h:List Res) (m:View):CT Tryz.prog 81 [.bool u,.bool a,.bool z] h m (A9 h (.bool (O2 u a z))):=by
 refine CT.body Tryz.call81 Tryz.func81 rfl Tryz.ntmps81 Lb rfl ?_;refine kQ1 [0,1,2] ?_;refine kQ1 [1,2,7] ?_;refine wc (fun c7=>?_) fun c7=>?_
 refine kQ2 [6] ?_;refine wT h ?_;exact⟨by rw[c7];rfl,rfl⟩;refine kQ0 [2] ?_;refine kQ2 [6] ?_;refine wT h ?_;exact⟨by rw[c7];rfl,rfl⟩
theorem b0R (m:View) (h:List Res):TOk m h A0:=.mk (Rd.nilF exE 6 m h) (fun _ hx=>by cases hx)
theorem a4e {m:View} {h:List Res} (e:Ex) (hT:TOk m h e):CT Tryz.prog 74 [exV e] h m (A9 h (.bool (G8 e))):=by
 refine CT.body Tryz.call74 Tryz.func74 rfl Tryz.ntmps74 Lb rfl ?_;refine j0 ?_;refine xX fun b1=>?_
 refine kQ1 [1] ?_;refine kA2 ?_;refine xf (E2 Et Et) (b9e e A0 _ _ (hT.mono Sb) (b0R _ _)) ?_;refine kQ1 [2] ?_;refine wT h ?_;exact⟨rfl,rfl⟩
theorem a7n {m:View} {h:List Res} (hg:Glob m) (e:Ex) (hE:EOk m h e):CT Tryz.prog 83 [exV e] h m (A9 h (.bool (D7 e))):=by
 have hT:=hE.t;have hW:=hE.w;refine CT.body Tryz.call83 Tryz.func83 rfl Tryz.ntmps83 Lb rfl ?_;refine j0 ?_;refine xX fun b1=>?_
 refine kQ1 [1] ?_;refine kA9 ?_;refine zG (fun _=>pA a3Z) ?_;refine B4 (GU.t rfl rfl) (fun hc=>⟨Ef,(E1 (Eg hc)),may_ct hg e _ (hT.mono Sb) hW⟩) Lb ?_;refine kQ2 [2] ?_;refine wT h ?_;exact⟨rfl,rfl⟩
theorem a8L (t:Ty) (h:List Res) (m:View) (hg:Glob m) (hs:t.proto.length<=9223372036854775807):CT Tryz.prog 148 [tyV t] h m (A9 h (.bool (Q0 t))):=by
 refine CT.body Tryz.call148 Tryz.func148 rfl Tryz.ntmps148 Lb rfl ?_;refine j0 ?_;refine xX fun b1=>?_
 refine kQ1 [1] ?_;refine kA1 ?_;refine xf (E1 Et) (Ty9.may_ct t _ _ hg hs) ?_;refine c6A [2] ?_;refine wT h ?_;exact⟨rfl,rfl⟩
theorem d0b {m:View} {h:List Res} (hg:Glob m) (r:Rp) (hn:r.name.length<=Big) (hb:EOk m h r.base) (hcn:EOk m h r.count):CT Tryz.prog 76 [rpV r] h m (A9 h (.bool (L3 r))):=by
 have hn2:r.name.length<=9223372036854775807:=Nat.le_trans hn (by decide);refine CT.body Tryz.call76 Tryz.func76 rfl Tryz.ntmps76 Lb rfl ?_;refine j0 ?_;refine xX fun b1=>?_
 refine kQ1 [1] ?_;refine kA2 ?_;refine xG (R6 Et Ek) ?_;refine kQ0 [1,5] ?_;refine wc (fun c5=>?_) fun c5=>?_
 have hR:L3 r=(G8 r.base&&G8 r.count):=by unfold L3;rw[if_pos c5]
 refine kA2 ?_;refine xf (E1 Et) (a4e r.base (hb.t.mono Sb)) ?_;refine kA3 ?_;refine B4 (GU.t rfl rfl) (fun hc=>⟨Ef,(E1 (Eg hc)),a4e r.count (hcn.t.mono Sb)⟩) Lb ?_;refine kQ2 [2] ?_;refine wT h ?_;exact⟨by rw[hR],rfl⟩;have hR:L3 r=(Go.Lx.name r.name&&E9 r.base&&E9 r.count):=by unfold L3;rw[if_neg (by rw[c5];decide)]
 refine kQ0 [1] ?_;refine kA2 ?_;refine xf (E1 Et) (a1Z r.name _ _ hg hn2) ?_;refine kA3 ?_;refine B4 (GU.t rfl rfl) (fun hc=>⟨Ef,(E1 (Eg hc)),may_ct hg r.base _ (hb.t.mono Sb) hb.w⟩) Lb ?_;refine kA4 ?_;refine B4 (GU.t rfl rfl) (fun hc=>⟨Ef,(E1 (Eg hc)),may_ct hg r.count _ (hcn.t.mono Sb) hcn.w⟩) Lb ?_;refine kQ2 [2] ?_;refine wT h ?_;exact⟨by rw[hR],rfl⟩
theorem c5P {m:View} {h:List Res} (hg:Glob m) (f:Fo) (hw:FoW f):CT Tryz.prog 151 [foV f] h m (A9 h (.bool (foP f))):=by
 have hn2:f.name.length<=9223372036854775807:=Nat.le_trans hw.n (by decide);have hp2:f.ty.proto.length<=9223372036854775807:=Nat.le_trans hw.t.p (by decide);refine CT.body Tryz.call151 Tryz.func151 rfl Tryz.ntmps151 Lb rfl ?_;refine j0 ?_;refine xX fun b1=>?_
 refine kQ1 [1] ?_;refine kA2 ?_;refine xf (E1 Et) (a1Z f.name _ _ hg hn2) ?_;refine kA3 ?_;refine B4 (GU.t rfl rfl) (fun hc=>⟨Ef,(E1 (Eg hc)),Ty9.may_ct f.ty _ _ hg hp2⟩) Lb ?_;refine kA8 ?_;refine B4 (a6u rfl rfl) (fun hc=>⟨Ef,(E1 (Eg hc)),a8L f.ty _ _ hg hp2⟩) Lb ?_;refine zG (fun hc=>a5z hc rfl rfl) ?_;refine kQ2 [2] ?_;refine wT h ?_;exact⟨rfl,rfl⟩
theorem c6o (v:Int) (a:Option Addr) (k c:Nat) (l:List Int) (h:List Res) (m:View) (hs:Rd m h a k c 1 (fl Q3 l)) :
 CT Tryz.prog 187 [.slice a k c,.int .u8 v] h m (A9 h (.int .i64 (Go.Ty.idxF (v==·) l 0))):=by
 have hl:=hs.lenF F1 (by decide);have hmx:=hs.mx;have hle:=hs.le;refine CT.body Tryz.call187 Tryz.func187 rfl Tryz.ntmps187 Lb rfl ?_;refine kQ1 [0,1] ?_;refine kQ3 [0,1,7,8] ?_;refine C0 [0,1,7] rfl (fun μ F' h'=>∃ j:Nat,(j<=k/\Go.Ty.idxF (v==·) l 0=Go.Ty.idxF (v==·) (l.drop j) j)/\k - j=μ/\F'=[(8,.int .i64 j)]/\h=h') (k - 0) [(8,.int .i64 0)] (h0:=h) ?_ Sb ⟨0,⟨by omega,rfl⟩,rfl,rfl,rfl⟩ ?_;exact Su;rintro _ _ _ ⟨j,⟨hk,hJ⟩,rfl,rfl,rfl⟩;refine C2 rfl ?_;refine kQ1 [0,1,7,8,9] ?_;refine wc (fun c9=>?_) fun c9=>?_
 replace c9:=dT c9;obtain⟨x,hx⟩:=A5 (l:=l) (k:=j) (by omega);rw[Go.Ty.idxF_drop _ hx] at hJ;refine kQ0 [0,1,7,8] ?_;refine kQ2 [0,1,5,7,8] ?_;refine kQ6 [0,1,5,7,8,16] ?_;refine wc (fun c16=>?_) fun c16=>?_
 replace c16:(v==x)=true:=c16;rw[c16] at hJ;refine kQ2 [4] ?_;refine wT h ?_;exact⟨by rw[hJ];rfl,rfl⟩;replace c16:(v==x)=false:=c16;rw[c16] at hJ;refine kQ0 [0,1,7,8] ?_;refine kA2 ?_;refine WL.nil (B1 (k - (j+1)) [(8,.int .i64 (j+1))] (h'':=h) (by omega) ?_ Su Sb ⟨j+1,⟨by omega,by simpa using hJ⟩,rfl,rfl,rfl⟩);exact Su;replace c9:=dF c9;rw[List.drop_eq_nil_of_le (by omega)] at hJ;refine kQ0 [] ?_;refine kQ1 [4] ?_;refine wT h ?_;exact⟨by rw[hJ];rfl,rfl⟩
theorem c7Z (v:Int) (a:Option Addr) (k c:Nat) (l:List Int) (h:List Res) (m:View) (hs:Rd m h a k c 1 (fl Q3 l)) :
 CT Tryz.prog 137 [.slice a k c,.int .u8 v] h m (A9 h (.bool (l.any (v==·)))):=by
 refine CT.body Tryz.call137 Tryz.func137 rfl Tryz.ntmps137 Lb rfl ?_;refine kQ1 [0,1] ?_;refine kA2 ?_;refine xf (E2 Et Et) (c6o v _ _ _ l _ _ hs) ?_;refine kQ2 [4] ?_;refine wT h ?_;exact⟨congrArg Value.bool (Go.Ty.idxF_any _ l 0 (by decide)),rfl⟩
theorem a8d {m:View} {h:List Res} (b1:Nat) (g:Gu) (hb1:Res.pt b1 (.cells (guE g).toArray 86 (0,0)) ∈ h) (a:Option Addr) (k c:Nat) (l:List Int) (hs:Rd m h a k c 1 (fl Q3 l)) :
 CT Tryz.prog 136 [.slice a k c,.pointer (some ⟨b1,0,none⟩)] h m (A9 h (.bool (l.any (g.k==·)))):=by
 refine CT.body Tryz.call136 Tryz.func136 rfl Tryz.ntmps136 Lb rfl ?_;refine kQ1 [0,1] ?_;refine kA2 ?_;refine xG (E6 c8J rfl Et hb1 rfl) ?_;refine xf (E2 Et Et) (c7Z g.k _ _ _ l _ _ hs) ?_;refine kQ1 [3] ?_;refine wT h ?_;exact⟨rfl,rfl⟩
theorem d3D (k:Int):([1,2,3,4]:List Int).any (k==·)=((k==1)||(k==2)||(k==3)||(k==4)):=by simp[Bool.or_assoc]
theorem d2r (k:Int):([3,4]:List Int).any (k==·)=((k==3)||(k==4)):=by simp
theorem d1Q (k q:Int):([q]:List Int).any (k==·)=(k==q):=by simp
set_option maxHeartbeats 2000000 in
theorem c0F {m:View} {h:List Res} (hg:Glob m) (g:Gu) (hO:GOk m h g):CT Tryz.prog 78 [guV g] h m (A9 h (.bool (guP g))):=by
 have hn2:g.name.length<=9223372036854775807:=Nat.le_trans hO.n (by decide);have htr:=hO.tg.rd;have hvr:=hO.vl.rd;refine CT.body Tryz.call78 Tryz.func78 rfl Tryz.ntmps78 Lb rfl ?_;refine j0 ?_;refine xX fun b1=>?_
 refine kQ1 [1] ?_;refine xG (PO.makeFunc Evs.nil (E1 Et)) ?_;refine kQ1 [1,3] ?_;refine kA2 ?_;refine xf (E1 Et) (may_ct hg g.cond _ (hO.cond.t.mono Sb) hO.cond.w) ?_;refine kQ1 [1,3,4] ?_;refine kA1 ?_;refine xY b3n Eb fun b12=>?_
 refine Q9 (Ev.tmp rfl) (E1 (Ev.tmp rfl)) (CT.val (a8d b1 g Me _ _ _ [3,4] (Rd.ofPt rfl Lb Me)) (congrArg Value.bool (d2r g.k))) Lb ?_;refine kP0 [1,3,4,13] ?_;refine L4 KKh [1,3] rfl (fun F' h'=>∃ cb:Bool,(cb=a4O g)/\F'=[(4,.bool cb)]/\.pt b1 (.cells (guE g).toArray 86 (0,0))::h=h') ?_ ?_;refine jE ?_;refine wc (fun c13=>?_) fun c13=>?_
 refine kA4 ?_;refine B4 (GU.f rfl rfl) (fun hc=>⟨Ef,(E1 (Eg hc)),a4e g.cond (hO.cond.t.mono Sb)⟩) Lb ?_;refine kA2 ?_;refine WL.nil (E5 [(4,.bool (E9 g.cond||G8 g.cond))] (h'':=.pt b1 (.cells (guE g).toArray 86 (0,0))::h) ?_ Su Sb ⟨E9 g.cond||G8 g.cond,by unfold a4O;rw[if_pos c13],rfl,rfl⟩);exact Su;refine WC.skip (E5 [(4,.bool (E9 g.cond))] (h'':=.pt b1 (.cells (guE g).toArray 86 (0,0))::h) ?_ Su Sb ⟨E9 g.cond,by unfold a4O;rw[if_neg (by rw[c13];decide)],rfl,rfl⟩);exact Su;rintro _ _ ⟨cb,hcb,rfl,rfl⟩;refine C2 rfl ?_;refine kA1 ?_;refine xW fun b5=>?_
 refine kQ1 [1,3,4,5] ?_;refine kP2 [1,3,4,5,22] ?_;refine L4 KKh [1,3,4,5] rfl (fun F' h'=>∃ lo:Int,∃ hi:Int,(lo=(if g.k=3 then 1 else 0)/\hi=(if g.k=3 then 8 else if g.k=7 then 8 else 0))/\F'=[]/\.pt b5 (.cells [.int .i64 lo,.int .i64 hi].toArray 145 (0,0))::.pt b1 (.cells (guE g).toArray 86 (0,0))::h=h') ?_ ?_;refine kQ2 [1,3,4,5,22,23] ?_;refine wc (fun c23=>?_) fun c23=>?_
 replace c23:=I2 c23;refine j0 ?_;refine xG (L2 (vs:=a9Q) Z2 rfl rfl Ev.global rfl (fun j v hj=>by rw[Nat.zero_add];exact hg.sSome j v hj)) ?_;refine kA1 ?_;refine WL.nil (E5 [] (h'':=.pt b5 (.cells [.int .i64 1,.int .i64 8].toArray 145 (0,0))::.pt b1 (.cells (guE g).toArray 86 (0,0))::h) ?_ Su Sb ⟨1,8,⟨by rw[if_pos c23],by rw[if_pos c23]⟩,rfl,rfl⟩);exact Su;replace c23:=I0 c23;refine kQ2 [1,3,4,5,26] ?_;refine wc (fun c26=>?_) fun c26=>?_
 replace c26:=I2 c26;refine kA2 ?_;refine WL.nil (E5 [] (h'':=.pt b5 (.cells [.int .i64 0,.int .i64 8].toArray 145 (0,0))::.pt b1 (.cells (guE g).toArray 86 (0,0))::h) ?_ Su Sb ⟨0,8,⟨by rw[if_neg c23],by rw[if_neg c23,if_pos c26]⟩,rfl,rfl⟩);exact Su;replace c26:=I0 c26;refine WC.skip (E5 [] (h'':=.pt b5 (.cells [.int .i64 0,.int .i64 0].toArray 145 (0,0))::.pt b1 (.cells (guE g).toArray 86 (0,0))::h) ?_ Su Sb ⟨0,0,⟨by rw[if_neg c23],by rw[if_neg c23,if_neg c26]⟩,rfl,rfl⟩);exact Su;rintro _ _ ⟨lo,hi,⟨hlo,hhi⟩,rfl,rfl⟩;refine C2 rfl ?_;refine kA1 ?_;refine xW fun b6=>?_
 refine kQ1 [1,3,4,5,6] ?_;refine kP3 [1,3,4,5,6,32] ?_;refine L4 KKh [1,3,4,5,6] rfl (fun F' h'=>∃ lo2:Int,∃ hi2:Int,(lo2=(if g.k=5 then 1 else 0)/\hi2=(if g.k=5 then 8 else 0))/\F'=[]/\.pt b6 (.cells [.int .i64 lo2,.int .i64 hi2].toArray 145 (0,0))::.pt b5 (.cells [.int .i64 lo,.int .i64 hi].toArray 145 (0,0))::.pt b1 (.cells (guE g).toArray 86 (0,0))::h=h') ?_ ?_;refine jE ?_;refine wc (fun c32=>?_) fun c32=>?_
 replace c32:=I2 c32;refine j0 ?_;refine xG (L2 (vs:=a9Q) Z2 rfl rfl Ev.global rfl (fun j v hj=>by rw[Nat.zero_add];exact hg.sSome j v hj)) ?_;refine kA1 ?_;refine WL.nil (E5 [] (h'':=.pt b6 (.cells [.int .i64 1,.int .i64 8].toArray 145 (0,0))::.pt b5 (.cells [.int .i64 lo,.int .i64 hi].toArray 145 (0,0))::.pt b1 (.cells (guE g).toArray 86 (0,0))::h) ?_ Su Sb ⟨1,8,⟨by rw[if_pos c32],by rw[if_pos c32]⟩,rfl,rfl⟩);exact Su;replace c32:=I0 c32;refine WC.skip (E5 [] (h'':=.pt b6 (.cells [.int .i64 0,.int .i64 0].toArray 145 (0,0))::.pt b5 (.cells [.int .i64 lo,.int .i64 hi].toArray 145 (0,0))::.pt b1 (.cells (guE g).toArray 86 (0,0))::h) ?_ Su Sb ⟨0,0,⟨by rw[if_neg c32],by rw[if_neg c32]⟩,rfl,rfl⟩);exact Su;rintro _ _ ⟨lo2,hi2,⟨hlo2,hhi2⟩,rfl,rfl⟩;refine C2 rfl ?_;refine jE ?_
 refine dS [16,17,21,22,26,27,30,34,38,39,42,45,46,50,51,54,57,58,64] (.op 0 (.op 1 (.op 2 (.op 3 (.op 4 (.op 5 (.op 6 (.op 7 (.op 8 (.op 9 (.op 10 (.op 11 (.op 12 (.op 13 (.op 14 (.op 15 (.op 18 (.op 19 (.op 20 (.op 16 (.op 17 (.op 21 (.op 22 (.op 23 (.op 24 (.op 25 (.op 28 (.op 29 (.op 31 (.op 32 (.op 33 (.op 26 (.op 27 (.op 30 (.op 34 (.op 35 (.op 36 (.op 37 (.op 40 (.op 41 (.op 43 (.op 44 (.op 38 (.op 39 (.op 42 (.op 45 (.op 46 (.op 47 (.op 48 (.op 49 (.op 52 (.op 53 (.op 55 (.op 56 (.op 50 (.op 51 (.op 54 (.op 57 (.op 58 (.op 59 (.op 60 (.op 61 (.op 62 (.op 63 (.op 64 (.op 65 (.op 66 (.op 67 (.op 68 (.op 69 .nil)))))))))))))))))))))))))))))))))))))))))))))))))))))))))))))))))))))) [70,71,72] F3 ?_;refine kA2 ?_;refine yG rfl (S0 Et Ek rfl) ?_;refine kA3 ?_;refine B9 rfl rfl (GU.t rfl rfl) (fun hc=>S0 (Eg hc) Ek rfl) Lb ?_;refine kA4 ?_
 refine B9 rfl rfl (GU.t rfl rfl) (fun hc=>X1 d0Z (Eg hc)) Lb ?_;refine B9 rfl rfl (GU.t rfl rfl) (fun hc=>S0 (Eg hc) Ek rfl) Lb ?_;refine kA2 ?_;refine B9 rfl rfl (GU.t rfl rfl) (fun hc=>PO.move Et) Lb ?_;refine B9 rfl rfl (GU.t rfl rfl) (fun hc=>PO.move Et) Lb ?_;refine kA2 ?_;refine a1T rfl rfl (GU.t rfl rfl) b3n rfl (fun hc=>(EvP.cons Ek (EvP.cons Ek (EvP.cons Ek (EvP.cons Ek EvP.nil))))) rfl rfl (by decide) rfl Lb fun b50 r50 hr50=>?_
 refine K3 rfl rfl (GU.t rfl rfl) (fun hc=>⟨(a0j rfl hc),(E1 (a0j rfl hc)),fun fr=>CT.val (a8d b1 g (List.mem_append_right _ Me) _ _ _ [1,2,3,4] (Rd.ofPt rfl Lb (by rw[hr50 hc];exact List.mem_append_right _ (List.Mem.head _)))) (congrArg Value.bool (d3D g.k))⟩) Lb ?_;refine K3 rfl rfl (GU.t rfl rfl) (fun hc=>⟨Ef,(E1 (Eg hc)),fun fr=>a4e g.cond (hO.cond.t.mono Sb)⟩) Lb ?_;refine K3 rfl rfl (GU.t rfl rfl) (fun hc=>⟨Ef,(E3 (Eg hc) (Eg hc) (Eg hc)),fun fr=>a3o _ _ _ _ _⟩) Lb ?_;refine kA2 ?_;refine B9 rfl rfl (GU.t rfl rfl) (fun hc=>PO.move Et) Lb ?_;refine kA4 ?_;refine B9 rfl rfl (GU.t rfl rfl) (fun hc=>R6 (Eg hc) Ek) Lb ?_;refine a1T rfl rfl (GU.t rfl rfl) b3n rfl (fun hc=>(EvP.cons Ek EvP.nil)) rfl rfl (by decide) rfl Lb fun b60 r60 hr60=>?_
 refine K3 rfl rfl (GU.t rfl rfl) (fun hc=>⟨(a0j rfl hc),(E1 (a0j rfl hc)),fun fr=>CT.val (a8d b1 g (List.mem_append_right _ Me) _ _ _ [7] (Rd.ofPt rfl Lb (by rw[hr60 hc];exact List.mem_append_right _ (List.Mem.head _)))) (congrArg Value.bool (d1Q g.k 7))⟩) Lb ?_;refine K3 rfl rfl (GU.t rfl rfl) (fun hc=>⟨Ef,(E1 (Eg hc)),fun fr=>a1Z g.name _ _ hg hn2⟩) Lb ?_;refine K3 rfl rfl (GU.t rfl rfl) (fun hc=>⟨Ef,(E3 (Eg hc) (Eg hc) (Eg hc)),fun fr=>a3o _ _ _ _ _⟩) Lb ?_;refine kA2 ?_;refine B9 rfl rfl (GU.t rfl rfl) (fun hc=>PO.move Et) Lb ?_;refine kA4 ?_;refine a1T rfl rfl (GU.t rfl rfl) b3n rfl (fun hc=>(EvP.cons Ek (EvP.cons Ek EvP.nil))) rfl rfl (by decide) rfl Lb fun b72 r72 hr72=>?_
 refine K3 rfl rfl (GU.t rfl rfl) (fun hc=>⟨(a0j rfl hc),(E1 (a0j rfl hc)),fun fr=>CT.val (a8d b1 g (List.mem_append_right _ Me) _ _ _ [3,4] (Rd.ofPt rfl Lb (by rw[hr72 hc];exact List.mem_append_right _ (List.Mem.head _)))) (congrArg Value.bool (d2r g.k))⟩) Lb ?_;refine K3 rfl rfl (GU.t rfl rfl) (fun hc=>⟨Ef,(E1 (Eg hc)),fun fr=>a7n hg g.ch (hO.ch.mono Sb)⟩) Lb ?_;refine K3 rfl rfl (GU.t rfl rfl) (fun hc=>⟨Ef,(E1 (Eg hc)),fun fr=>a4e g.ch (hO.ch.t.mono Sb)⟩) Lb ?_;refine K3 rfl rfl (GU.t rfl rfl) (fun hc=>⟨Ef,(E3 (Eg hc) (Eg hc) (Eg hc)),fun fr=>a3o _ _ _ _ _⟩) Lb ?_;refine kA2 ?_;refine B9 rfl rfl (GU.t rfl rfl) (fun hc=>PO.move Et) Lb ?_;refine kA4 ?_;refine a1T rfl rfl (GU.t rfl rfl) b3n rfl (fun hc=>(EvP.cons Ek EvP.nil)) rfl rfl (by decide) rfl Lb fun b84 r84 hr84=>?_
 refine K3 rfl rfl (GU.t rfl rfl) (fun hc=>⟨(a0j rfl hc),(E1 (a0j rfl hc)),fun fr=>CT.val (a8d b1 g (List.mem_append_right _ Me) _ _ _ [4] (Rd.ofPt rfl Lb (by rw[hr84 hc];exact List.mem_append_right _ (List.Mem.head _)))) (congrArg Value.bool (d1Q g.k 4))⟩) Lb ?_;refine K3 rfl rfl (GU.t rfl rfl) (fun hc=>⟨Ef,(E1 (Eg hc)),fun fr=>may_ct hg g.time _ (hO.time.t.mono Sb) hO.time.w⟩) Lb ?_;refine K3 rfl rfl (GU.t rfl rfl) (fun hc=>⟨Ef,(E1 (Eg hc)),fun fr=>a4e g.time (hO.time.t.mono Sb)⟩) Lb ?_;refine K3 rfl rfl (GU.t rfl rfl) (fun hc=>⟨Ef,(E3 (Eg hc) (Eg hc) (Eg hc)),fun fr=>a3o _ _ _ _ _⟩) Lb ?_;refine kA4 ?_;refine B9 rfl rfl (GU.t rfl rfl) (fun hc=>U2 Z2 rfl rfl Et Me rfl) Lb ?_;refine K3 rfl rfl (GU.t rfl rfl) (fun hc=>⟨Ef,(E3 (Eg hc) (Eg hc) Ef),fun fr=>a7i 83 [] D7 lo hi _ _ _ g.tg.l _ _ (fun x hx h' hh=>a7n hg x ((hO.tg.ok x hx).mono (List.Sublist.trans Sb hh))) (htr.mono Vl Sb)⟩) Lb ?_
 refine kA4 ?_;refine B9 rfl rfl (GU.t rfl rfl) (fun hc=>U2 Z2 rfl rfl Et Me rfl) Lb ?_;refine SR.nil rfl rfl ?_;refine B4 (GU.t rfl rfl) (fun hc=>⟨Ef,(E3 (Eg hc) (Eg hc) Ef),a7i 85 [] E9 lo2 hi2 _ _ _ g.vl.l _ _ (fun x hx h' hh=>may_ct hg x _ ((hO.vl.ok x hx).t.mono (List.Sublist.trans Sb hh)) (hO.vl.ok x hx).w) (hvr.mono Vl Sb)⟩) Lb ?_;refine kQ2 [2] ?_;refine wT h ?_;exact⟨by unfold guP;rw[<- hcb,<- hlo,<- hhi,<- hlo2,<- hhi2],rfl⟩
end
section
open Go.Eng Go.Pc Go
open Go.Xp hiding B D3
open Go.Ty (Ty Vr eqT tyV M2 PrOk VOk prL encV F8 Q3 F1 eqI a4v a4x b5a)
open Go.Lx (encB D8)
theorem c1S {m:View} {h:List Res} (hg:Glob m) (k:Int):CT Tryz.prog 75 [.int .u8 k] h m (A9 h (.tuple #[.agg (usE (B6 k).1).toArray,.bool (B6 k).2])):=by
 refine CT.body Tryz.call75 Tryz.func75 rfl Tryz.ntmps75 Lb rfl ?_;refine j0 ?_;refine xW fun b2=>?_
 refine kQ1 [0,2] ?_;refine kQ1 [2,4] ?_;refine kP2 [2,4,5] ?_;refine L4 KKh [2,4] rfl (fun F' h'=>∃ q1:Bool,(q1=true↔(k=1\/k=2))/\F'=[(5,.bool q1)]/\.pt b2 (.cells (usE us0).toArray 147 (0,0))::h=h') ?_ ?_;refine jE ?_;refine wc (fun c5=>?_) fun c5=>?_
 have ca:(k==1)=true:=c5;refine WC.skip (E5 [(5,.bool ((k==1)))] (h'':=.pt b2 (.cells (usE us0).toArray 147 (0,0))::h) ?_ Su Sb ⟨(k==1),⟨fun _=>.inl (by simpa using ca),fun _=>ca⟩,rfl,rfl⟩);exact Su;have ca:(k==1)=false:=c5;refine kA2 ?_;refine WL.nil (E5 [(5,.bool ((k==2)))] (h'':=.pt b2 (.cells (usE us0).toArray 147 (0,0))::h) ?_ Su Sb ⟨(k==2),⟨fun hk=>.inr (by simpa using hk),fun hk=>hk.elim (fun h1=>absurd h1 (by simpa using ca)) (fun h1=>by simpa using h1)⟩,rfl,rfl⟩);exact Su;rintro _ _ ⟨q1,hb1,rfl,rfl⟩;refine C2 rfl ?_;refine jE ?_;refine wc (fun c5=>?_) fun c5=>?_
 have hk:=hb1.1 c5;refine kQ3 [2,3] ?_;refine w2 h (h1:=cA a0Q) ?_;exact⟨by rcases hk with hk | hk <;> (rw[hk];rfl),rfl⟩;have hk12:¬ (k=1\/k=2):=fun q=>by rw[hb1.2 q] at c5;cases c5
 refine kQ2 [2,4,9] ?_;refine wc (fun c9=>?_) fun c9=>?_
 replace c9:=I2 c9;refine j0 ?_;refine xG (L2 (vs:=a9Q) Z2 rfl rfl Ev.global rfl (fun j v hj=>by rw[Nat.zero_add];exact hg.sSome j v hj)) ?_;refine xG (L2 (vs:=a9Q) Z2 rfl rfl Ev.global rfl (fun j v hj=>by rw[Nat.zero_add];exact hg.sSome j v hj)) ?_;refine kQ3 [2,3] ?_;refine w2 h (h1:=cA a0Q) ?_;exact⟨by rw[c9];rfl,rfl⟩;replace c9:=I0 c9;refine kQ2 [2,4,14] ?_;refine wc (fun c14=>?_) fun c14=>?_
 replace c14:=I2 c14;refine j0 ?_;refine xG (L2 (vs:=a9Q) Z2 rfl rfl Ev.global rfl (fun j v hj=>by rw[Nat.zero_add];exact hg.sSome j v hj)) ?_;refine kQ3 [2,3] ?_;refine w2 h (h1:=cA a0Q) ?_;exact⟨by rw[c14];rfl,rfl⟩;replace c14:=I0 c14;refine kQ2 [2,4,18] ?_;refine wc (fun c18=>?_) fun c18=>?_
 replace c18:=I2 c18;refine kQ4 [2,3] ?_;refine w2 h (h1:=cA a0Q) ?_;exact⟨by rw[c18];rfl,rfl⟩;replace c18:=I0 c18;refine kQ2 [2,4,22] ?_;refine wc (fun c22=>?_) fun c22=>?_
 replace c22:=I2 c22;refine j0 ?_;refine xG (L2 (vs:=b1C) Z2 rfl rfl Ev.global rfl (fun j v hj=>by rw[Nat.zero_add];exact hg.sOne j v hj)) ?_;refine kQ3 [2,3] ?_;refine w2 h (h1:=cA a0Q) ?_;exact⟨by rw[c22];rfl,rfl⟩;replace c22:=I0 c22;refine kQ2 [2,4,26] ?_;refine wc (fun c26=>?_) fun c26=>?_
 replace c26:=I2 c26;refine kA1 ?_;refine xG (PO.build a0Q rfl rfl rfl Eb (by exact rfl)) ?_;refine kQ2 [2,3] ?_;refine w2 h (h1:=cA a0Q) ?_;exact⟨by rw[c26];rfl,rfl⟩;replace c26:=I0 c26;refine kP2 [2,4,30] ?_;refine L4 KKh [2,4] rfl (fun F' h'=>∃ q2:Bool,(q2=true↔(k=8\/k=9))/\F'=[(30,.bool q2)]/\.pt b2 (.cells (usE us0).toArray 147 (0,0))::h=h') ?_ ?_;refine jE ?_;refine wc (fun c30=>?_) fun c30=>?_
 have ca:(k==8)=true:=c30;refine WC.skip (E5 [(30,.bool ((k==8)))] (h'':=.pt b2 (.cells (usE us0).toArray 147 (0,0))::h) ?_ Su Sb ⟨(k==8),⟨fun _=>.inl (by simpa using ca),fun _=>ca⟩,rfl,rfl⟩);exact Su;have ca:(k==8)=false:=c30;refine kA2 ?_;refine WL.nil (E5 [(30,.bool ((k==9)))] (h'':=.pt b2 (.cells (usE us0).toArray 147 (0,0))::h) ?_ Su Sb ⟨(k==9),⟨fun hk=>.inr (by simpa using hk),fun hk=>hk.elim (fun h1=>absurd h1 (by simpa using ca)) (fun h1=>by simpa using h1)⟩,rfl,rfl⟩);exact Su;rintro _ _ ⟨q2,hb2,rfl,rfl⟩;refine C2 rfl ?_;refine jE ?_;refine wc (fun c30=>?_) fun c30=>?_
 have hk:=hb2.1 c30;refine j0 ?_;refine xG (L2 (vs:=c6D) Z2 rfl rfl Ev.global rfl (fun j v hj=>by rw[Nat.zero_add];exact hg.sAll j v hj)) ?_;refine kQ3 [2,3] ?_;refine w2 h (h1:=cA a0Q) ?_;exact⟨by rcases hk with hk | hk <;> (rw[hk];rfl),rfl⟩;have hk89:¬ (k=8\/k=9):=fun q=>by rw[hb2.2 q] at c30;cases c30
 refine kQ2 [2,4,35] ?_;refine wc (fun c35=>?_) fun c35=>?_
 replace c35:=I2 c35;refine kQ4 [2,3] ?_;refine w2 h (h1:=cA a0Q) ?_;exact⟨by rw[c35];rfl,rfl⟩;replace c35:=I0 c35;refine kQ2 [2,4,39] ?_;refine wc (fun c39=>?_) fun c39=>?_
 replace c39:=I2 c39;refine kQ4 [2,3] ?_;refine w2 h (h1:=cA a0Q) ?_;exact⟨by rw[c39];rfl,rfl⟩;replace c39:=I0 c39;refine kP2 [2,4,43] ?_;refine L4 KKh [2,4] rfl (fun F' h'=>∃ q3:Bool,(q3=true↔(k=12\/k=13))/\F'=[(43,.bool q3)]/\.pt b2 (.cells (usE us0).toArray 147 (0,0))::h=h') ?_ ?_;refine jE ?_;refine wc (fun c43=>?_) fun c43=>?_
 have ca:(k==12)=true:=c43;refine WC.skip (E5 [(43,.bool ((k==12)))] (h'':=.pt b2 (.cells (usE us0).toArray 147 (0,0))::h) ?_ Su Sb ⟨(k==12),⟨fun _=>.inl (by simpa using ca),fun _=>ca⟩,rfl,rfl⟩);exact Su;have ca:(k==12)=false:=c43;refine kA2 ?_;refine WL.nil (E5 [(43,.bool ((k==13)))] (h'':=.pt b2 (.cells (usE us0).toArray 147 (0,0))::h) ?_ Su Sb ⟨(k==13),⟨fun hk=>.inr (by simpa using hk),fun hk=>hk.elim (fun h1=>absurd h1 (by simpa using ca)) (fun h1=>by simpa using h1)⟩,rfl,rfl⟩);exact Su;rintro _ _ ⟨q3,hb3,rfl,rfl⟩;refine C2 rfl ?_;refine jE ?_;refine wc (fun c43=>?_) fun c43=>?_
 have hk:=hb3.1 c43;refine kA1 ?_;refine xG (PO.build a0Q rfl rfl rfl Eb (by exact rfl)) ?_;refine kQ2 [2,3] ?_;refine w2 h (h1:=cA a0Q) ?_;exact⟨by rcases hk with hk | hk <;> (rw[hk];rfl),rfl⟩;have hk1213:¬ (k=12\/k=13):=fun q=>by rw[hb3.2 q] at c43;cases c43
 refine kQ2 [2,4,48] ?_;refine wc (fun c48=>?_) fun c48=>?_
 replace c48:=I2 c48;refine kA1 ?_;refine xG (PO.build a0Q rfl rfl rfl Eb (by exact rfl)) ?_;refine kQ2 [2,3] ?_;refine w2 h (h1:=cA a0Q) ?_;exact⟨by rw[c48];rfl,rfl⟩;replace c48:=I0 c48;refine kQ2 [2,4,52] ?_;refine wc (fun c52=>?_) fun c52=>?_
 replace c52:=I2 c52;refine j0 ?_;refine xG (L2 (vs:=b1C) Z2 rfl rfl Ev.global rfl (fun j v hj=>by rw[Nat.zero_add];exact hg.sOne j v hj)) ?_;refine kA1 ?_;refine xG (PO.build a0Q rfl rfl rfl Eb (by exact rfl)) ?_;refine kQ2 [2,3] ?_;refine w2 h (h1:=cA a0Q) ?_;exact⟨by rw[c52];rfl,rfl⟩;replace c52:=I0 c52;refine kQ2 [2,4,57] ?_;refine wc (fun c57=>?_) fun c57=>?_
 replace c57:=I2 c57;refine j0 ?_;refine xG (L2 (vs:=b1C) Z2 rfl rfl Ev.global rfl (fun j v hj=>by rw[Nat.zero_add];exact hg.sOne j v hj)) ?_;refine xG (L2 (vs:=b1C) Z2 rfl rfl Ev.global rfl (fun j v hj=>by rw[Nat.zero_add];exact hg.sOne j v hj)) ?_;refine kQ3 [2,3] ?_;refine w2 h (h1:=cA a0Q) ?_;exact⟨by rw[c57];rfl,rfl⟩;replace c57:=I0 c57;refine kQ2 [2,4,62] ?_;refine wc (fun c62=>?_) fun c62=>?_
 replace c62:=I2 c62;refine kQ4 [2,3] ?_;refine w2 h (h1:=cA a0Q) ?_;exact⟨by rw[c62];rfl,rfl⟩;replace c62:=I0 c62;refine kQ2 [2,66] ?_;refine wc (fun c66=>?_) fun c66=>?_
 replace c66:=I2 c66;refine j0 ?_;refine xG (L2 (vs:=b1C) Z2 rfl rfl Ev.global rfl (fun j v hj=>by rw[Nat.zero_add];exact hg.sOne j v hj)) ?_;refine kQ3 [2,3] ?_;refine w2 h (h1:=cA a0Q) ?_;exact⟨by rw[c66];rfl,rfl⟩;replace c66:=I0 c66;have hF:B6 k=(us0,false):=by
  unfold B6;repeat rw[if_neg (by omega)]
 refine kQ0 [2] ?_;refine kQ3 [2,3] ?_;refine w2 h (h1:=cA a0Q) ?_;exact⟨by rw[hF];rfl,rfl⟩
def eqS (x y:B):Bool:=x==y
theorem d00 {x y:B} (h:(!(x==y))=true):eqS x y=false:=by simpa [eqS] using h
theorem d1j {x y:B} (h:(!(x==y))=false):eqS x y=true:=by simpa [eqS] using h
theorem c6H (x y:B):eqS x y=true↔x=y:=by simp[eqS]
theorem c6E {x y:Fo} (h:(!(a0z x y))=true):a0z x y=false:=by simpa using h
theorem c6S {x y:Fo} (h:(!(a0z x y))=false):a0z x y=true:=by simpa using h
theorem c0f {α:Type} [BEq α] [LawfulBEq α] {e:α->α->Bool} (he:∀ x y,e x y=true↔x=y) (xs ys:List α):eqL e xs ys=(xs==ys):=by
 rw[Bool.eq_iff_iff,b4y he];simp
theorem b6H (s1 s2:Option Addr) (n1 c1 n2 c2:Nat) (xs ys:List _) (h:List Res) (m:View) (h1:Rd m h s1 n1 c1 1 (fl Q3 xs)) (h2:Rd m h s2 n2 c2 1 (fl Q3 ys)) :
 CT Tryz.prog 201 [.slice s1 n1 c1,.slice s2 n2 c2] h m (A9 h (.bool (eqL eqI xs ys))):=by
 have l1:=h1.lenF F1 (by decide);have l2:=h2.lenF F1 (by decide);have m1:=h1.mx;have m2:=h2.mx;have k1:=h1.le;have k2:=h2.le;refine CT.body Tryz.call201 Tryz.func201 rfl Tryz.ntmps201 Lb rfl ?_;refine kQ1 [0,1] ?_;refine kQ5 [0,1,10] ?_;refine wc (fun c10=>?_) fun c10=>?_
 replace c10:=a2T c10;refine kQ1 [4] ?_;refine wT h ?_;exact⟨by rw[W7 _ _ _ (by omega)],rfl⟩;replace c10:=a2U c10;refine kQ0 [0,1] ?_;refine kQ3 [0,1,12,13] ?_;refine C0 [0,1,12] rfl (fun μ F' h'=>∃ k:Nat,(k<=n1/\eqL eqI xs ys=eqL eqI (xs.drop k) (ys.drop k))/\n1 - k=μ/\F'=[(13,.int .i64 k)]/\h=h') (n1 - 0) [(13,.int .i64 0)] (h0:=h) ?_ Sb ⟨0,⟨by omega,by simp⟩,rfl,rfl,rfl⟩ ?_;exact Su;rintro _ _ _ ⟨k,⟨hk,hJ⟩,rfl,rfl,rfl⟩;refine C2 rfl ?_;refine kQ1 [0,1,12,13,14] ?_;refine wc (fun c14=>?_) fun c14=>?_
 replace c14:=dT c14;obtain⟨x,hx⟩:=A5 (l:=xs) (k:=k) (by omega);obtain⟨y,hy⟩:=A5 (l:=ys) (k:=k) (by omega);rw[U4 _ hx hy] at hJ;refine kQ0 [0,1,12,13] ?_;refine kQ2 [0,1,5,12,13] ?_;refine dS [] (.op 0 (.op 1 (.op 2 (.op 3 (.op 4 (.op 5 (.op 6 (.op 7 .nil)))))))) [8] F3 ?_;refine kA8 ?_;refine SR.nil rfl rfl ?_;refine kQ1 [0,1,12,13,24] ?_;refine wc (fun c24=>?_) fun c24=>?_
 refine kQ1 [4] ?_;refine wT h ?_;exact⟨by rw[hJ,a4v c24];rfl,rfl⟩;rw[a4x c24,Bool.true_and] at hJ;refine kQ0 [0,1,12,13] ?_;refine kA2 ?_;refine WL.nil (B1 (n1 - (k+1)) [(13,.int .i64 (k+1))] (h'':=h) (by omega) ?_ Su Sb ⟨k+1,⟨by omega,hJ⟩,rfl,rfl,rfl⟩);exact Su;replace c14:=dF c14;refine kQ0 [] ?_;refine kQ1 [4] ?_;refine wT h ?_;exact⟨by rw[hJ,List.drop_eq_nil_of_le (by omega),List.drop_eq_nil_of_le (by omega)];rfl,rfl⟩
theorem b7f (s1 s2:Option Addr) (n1 c1 n2 c2:Nat) (xs ys:List _) (h:List Res) (m:View) (h1:Rd m h s1 n1 c1 1 (fl encB xs)) (h2:Rd m h s2 n2 c2 1 (fl encB ys)) :
 CT Tryz.prog 202 [.slice s1 n1 c1,.slice s2 n2 c2] h m (A9 h (.bool (eqL eqS xs ys))):=by
 have l1:=h1.lenF D8 (by decide);have l2:=h2.lenF D8 (by decide);have m1:=h1.mx;have m2:=h2.mx;have k1:=h1.le;have k2:=h2.le;refine CT.body Tryz.call202 Tryz.func202 rfl Tryz.ntmps202 Lb rfl ?_;refine kQ1 [0,1] ?_;refine kQ5 [0,1,10] ?_;refine wc (fun c10=>?_) fun c10=>?_
 replace c10:=a2T c10;refine kQ1 [4] ?_;refine wT h ?_;exact⟨by rw[W7 _ _ _ (by omega)],rfl⟩;replace c10:=a2U c10;refine kQ0 [0,1] ?_;refine kQ3 [0,1,12,13] ?_;refine C0 [0,1,12] rfl (fun μ F' h'=>∃ k:Nat,(k<=n1/\eqL eqS xs ys=eqL eqS (xs.drop k) (ys.drop k))/\n1 - k=μ/\F'=[(13,.int .i64 k)]/\h=h') (n1 - 0) [(13,.int .i64 0)] (h0:=h) ?_ Sb ⟨0,⟨by omega,by simp⟩,rfl,rfl,rfl⟩ ?_;exact Su;rintro _ _ _ ⟨k,⟨hk,hJ⟩,rfl,rfl,rfl⟩;refine C2 rfl ?_;refine kQ1 [0,1,12,13,14] ?_;refine wc (fun c14=>?_) fun c14=>?_
 replace c14:=dT c14;obtain⟨x,hx⟩:=A5 (l:=xs) (k:=k) (by omega);obtain⟨y,hy⟩:=A5 (l:=ys) (k:=k) (by omega);rw[U4 _ hx hy] at hJ;refine kQ0 [0,1,12,13] ?_;refine kQ2 [0,1,5,12,13] ?_;refine dS [] (.op 0 (.op 1 (.op 2 (.op 3 (.op 4 (.op 5 (.op 6 (.op 7 .nil)))))))) [8] F3 ?_;refine kA8 ?_;refine SR.nil rfl rfl ?_;refine xG (W9 Et Et) ?_;refine kQ0 [0,1,12,13,24] ?_;refine wc (fun c24=>?_) fun c24=>?_
 refine kQ1 [4] ?_;refine wT h ?_;exact⟨by rw[hJ,d00 c24];rfl,rfl⟩;rw[d1j c24,Bool.true_and] at hJ;refine kQ0 [0,1,12,13] ?_;refine kA2 ?_;refine WL.nil (B1 (n1 - (k+1)) [(13,.int .i64 (k+1))] (h'':=h) (by omega) ?_ Su Sb ⟨k+1,⟨by omega,hJ⟩,rfl,rfl,rfl⟩);exact Su;replace c14:=dF c14;refine kQ0 [] ?_;refine kQ1 [4] ?_;refine wT h ?_;exact⟨by rw[hJ,List.drop_eq_nil_of_le (by omega),List.drop_eq_nil_of_le (by omega)];rfl,rfl⟩
theorem b6G (s1 s2:Option Addr) (n1 c1 n2 c2:Nat) (xs ys:List _) (h:List Res) (m:View) (h1:Rd m h s1 n1 c1 6 (fl foE xs)) (h2:Rd m h s2 n2 c2 6 (fl foE ys)) :
 CT Tryz.prog 204 [.slice s1 n1 c1,.slice s2 n2 c2] h m (A9 h (.bool (eqL a0z xs ys))):=by
 have l1:=h1.lenF a79 (by decide);have l2:=h2.lenF a79 (by decide);have m1:=h1.mx;have m2:=h2.mx;have k1:=h1.le;have k2:=h2.le;refine CT.body Tryz.call204 Tryz.func204 rfl Tryz.ntmps204 Lb rfl ?_;refine kQ1 [0,1] ?_;refine kQ5 [0,1,10] ?_;refine wc (fun c10=>?_) fun c10=>?_
 replace c10:=a2T c10;refine kQ1 [4] ?_;refine wT h ?_;exact⟨by rw[W7 _ _ _ (by omega)],rfl⟩;replace c10:=a2U c10;refine kQ0 [0,1] ?_;refine kQ3 [0,1,12,13] ?_;refine C0 [0,1,12] rfl (fun μ F' h'=>∃ k:Nat,(k<=n1/\eqL a0z xs ys=eqL a0z (xs.drop k) (ys.drop k))/\n1 - k=μ/\F'=[(13,.int .i64 k)]/\h=h') (n1 - 0) [(13,.int .i64 0)] (h0:=h) ?_ Sb ⟨0,⟨by omega,by simp⟩,rfl,rfl,rfl⟩ ?_;exact Su;rintro _ _ _ ⟨k,⟨hk,hJ⟩,rfl,rfl,rfl⟩;refine C2 rfl ?_;refine kQ1 [0,1,12,13,14] ?_;refine wc (fun c14=>?_) fun c14=>?_
 replace c14:=dT c14;obtain⟨x,hx⟩:=A5 (l:=xs) (k:=k) (by omega);obtain⟨y,hy⟩:=A5 (l:=ys) (k:=k) (by omega);rw[U4 _ hx hy] at hJ;refine kQ0 [0,1,12,13] ?_;refine kQ2 [0,1,5,12,13] ?_;refine dS [] (.op 0 (.op 1 (.op 2 (.op 3 (.op 4 (.op 5 (.op 6 (.op 7 .nil)))))))) [8] F3 ?_;refine kA8 ?_;refine SR.nil rfl rfl ?_;refine xG (b7G (o:=43) c7g (by kernel_rfl) (by kernel_rfl) Et Et (by kernel_rfl) rfl) ?_;refine kQ0 [0,1,12,13,24] ?_;refine wc (fun c24=>?_) fun c24=>?_
 refine kQ1 [4] ?_;refine wT h ?_;exact⟨by rw[hJ,c6E c24];rfl,rfl⟩;rw[c6S c24,Bool.true_and] at hJ;refine kQ0 [0,1,12,13] ?_;refine kA2 ?_;refine WL.nil (B1 (n1 - (k+1)) [(13,.int .i64 (k+1))] (h'':=h) (by omega) ?_ Su Sb ⟨k+1,⟨by omega,hJ⟩,rfl,rfl,rfl⟩);exact Su;replace c14:=dF c14;refine kQ0 [] ?_;refine kQ1 [4] ?_;refine wT h ?_;exact⟨by rw[hJ,List.drop_eq_nil_of_le (by omega),List.drop_eq_nil_of_le (by omega)];rfl,rfl⟩
theorem d2W {m:View} {h:List Res} (x y:Vr) (hx:VOk m h x) (hy:VOk m h y):CT Tryz.prog 200 [.agg (encV x).toArray,.agg (encV y).toArray] h m (A9 h (.bool (L5 x y))):=by
 have r1:=hx.rd;have r2:=hy.rd;have hi:=c0f b5a x.items y.items;refine CT.body Tryz.call200 Tryz.func200 rfl Tryz.ntmps200 Lb rfl ?_;refine j0 ?_;refine xX fun b2=>?_
 refine xX fun b3=>?_
 refine kQ1 [2,3] ?_;refine kA4 ?_;refine xG (R6 Et Et) ?_;refine kA5 ?_;refine B4 (GU.t rfl rfl) (fun hc=>⟨Ef,(E2 (Eg hc) (Eg hc)),b6H _ _ _ _ _ _ _ _ _ _ Rr Rr⟩) Lb ?_;refine kQ2 [4] ?_;refine wT h ?_;exact⟨by unfold L5;rw[<- hi],rfl⟩
theorem c6G (q:FuncId) (pr:Vr->Vr->Bool) (s1 s2:Option Addr) (n1 c1 n2 c2:Nat) (xs ys:List Vr) (h:List Res) (m:View) (h1:Rd m h s1 n1 c1 2 (fl encV xs)) (h2:Rd m h s2 n2 c2 2 (fl encV ys))
 (hq:∀ x ∈ xs,∀ y ∈ ys,∀ h',h.Sublist h'->CT Tryz.prog q ([]++[.agg (encV x).toArray,.agg (encV y).toArray]++[]) h' m (A9 h' (.bool (pr x y)))) :
 CT Tryz.prog 203 [.slice s1 n1 c1,.slice s2 n2 c2,.func (.func q) #[] #[]] h m (A9 h (.bool (eqL pr xs ys))):=by
 have l1:=h1.lenF F8 (by decide);have l2:=h2.lenF F8 (by decide);have m1:=h1.mx;have m2:=h2.mx;have k1:=h1.le;have k2:=h2.le;refine CT.body Tryz.call203 Tryz.func203 rfl Tryz.ntmps203 Lb rfl ?_;refine kQ1 [0,1,2] ?_;refine kQ5 [0,1,2,14] ?_;refine wc (fun c14=>?_) fun c14=>?_
 replace c14:=a2T c14;refine kQ1 [6] ?_;refine wT h ?_;exact⟨by rw[W7 _ _ _ (by omega)],rfl⟩;replace c14:=a2U c14;refine kQ0 [0,1,2] ?_;refine kQ3 [1,2,15,16,17] ?_;refine C0 [1,2,15,16] rfl (fun μ F' h'=>∃ k:Nat,(k<=n1/\eqL pr xs ys=eqL pr (xs.drop k) (ys.drop k))/\n1 - k=μ/\F'=[(17,.int .i64 k)]/\h=h') (n1 - 0) [(17,.int .i64 0)] (h0:=h) ?_ Sb ⟨0,⟨by omega,by simp⟩,rfl,rfl,rfl⟩ ?_;exact Su;rintro _ _ _ ⟨k,⟨hk,hJ⟩,rfl,rfl,rfl⟩;refine C2 rfl ?_;refine kQ1 [1,2,15,16,17,18] ?_;refine wc (fun c18=>?_) fun c18=>?_
 replace c18:=dT c18;obtain⟨x,hx⟩:=A5 (l:=xs) (k:=k) (by omega);obtain⟨y,hy⟩:=A5 (l:=ys) (k:=k) (by omega);rw[U4 _ hx hy] at hJ;refine kQ0 [1,2,15,16,17] ?_;refine kA3 ?_;refine xW fun b8=>?_
 refine kQ2 [1,2,7,8,15,16,17] ?_;refine kA4 ?_;refine xW fun b9=>?_
 refine kQ1 [1,2,8,9,15,16,17] ?_;refine kA3 ?_;refine Q9 (Ev.tmp rfl) (E2 (Ev.tmp rfl) (Ev.tmp rfl)) (hq x (List.mem_of_getElem? hx) y (List.mem_of_getElem? hy) _ Sb) Lb ?_;refine kQ1 [1,2,15,16,17,30] ?_;refine wc (fun c30=>?_) fun c30=>?_
 have d30:pr x y=false:=by simpa using c30
 rw[d30] at hJ;refine kQ1 [6] ?_;refine wT h ?_;exact⟨by rw[hJ];rfl,rfl⟩;have d30:pr x y=true:=by simpa using c30
 rw[d30,Bool.true_and] at hJ;refine kQ0 [1,2,15,16,17] ?_;refine kA2 ?_;refine WL.nil (B1 (n1 - (k+1)) [(17,.int .i64 (k+1))] (h'':=h) (by omega) ?_ Su Sb ⟨k+1,⟨by omega,hJ⟩,rfl,rfl,rfl⟩);exact Su;replace c18:=dF c18;refine kQ0 [] ?_;refine kQ1 [6] ?_;refine wT h ?_;exact⟨by rw[hJ,List.drop_eq_nil_of_le (by omega),List.drop_eq_nil_of_le (by omega)];rfl,rfl⟩
theorem c8Q (q:FuncId) (pr:Pr->Pr->Bool) (s1 s2:Option Addr) (n1 c1 n2 c2:Nat) (xs ys:List Pr) (h:List Res) (m:View) (h1:Rd m h s1 n1 c1 42 (fl prE xs)) (h2:Rd m h s2 n2 c2 42 (fl prE ys))
 (hq:∀ x ∈ xs,∀ y ∈ ys,∀ h',h.Sublist h'->CT Tryz.prog q ([]++[prV x,prV y]++[]) h' m (A9 h' (.bool (pr x y)))) :
 CT Tryz.prog 154 [.slice s1 n1 c1,.slice s2 n2 c2,.func (.func q) #[] #[]] h m (A9 h (.bool (eqL pr xs ys))):=by
 have l1:=h1.lenF a4n (by decide);have l2:=h2.lenF a4n (by decide);have m1:=h1.mx;have m2:=h2.mx;have k1:=h1.le;have k2:=h2.le;refine CT.body Tryz.call154 Tryz.func154 rfl Tryz.ntmps154 Lb rfl ?_;refine kQ1 [0,1,2] ?_;refine kQ5 [0,1,2,14] ?_;refine wc (fun c14=>?_) fun c14=>?_
 replace c14:=a2T c14;refine kQ1 [6] ?_;refine wT h ?_;exact⟨by rw[W7 _ _ _ (by omega)],rfl⟩;replace c14:=a2U c14;refine kQ0 [0,1,2] ?_;refine kQ3 [1,2,15,16,17] ?_;refine C0 [1,2,15,16] rfl (fun μ F' h'=>∃ k:Nat,(k<=n1/\eqL pr xs ys=eqL pr (xs.drop k) (ys.drop k))/\n1 - k=μ/\F'=[(17,.int .i64 k)]/\h=h') (n1 - 0) [(17,.int .i64 0)] (h0:=h) ?_ Sb ⟨0,⟨by omega,by simp⟩,rfl,rfl,rfl⟩ ?_;exact Su;rintro _ _ _ ⟨k,⟨hk,hJ⟩,rfl,rfl,rfl⟩;refine C2 rfl ?_;refine kQ1 [1,2,15,16,17,18] ?_;refine wc (fun c18=>?_) fun c18=>?_
 replace c18:=dT c18;obtain⟨x,hx⟩:=A5 (l:=xs) (k:=k) (by omega);obtain⟨y,hy⟩:=A5 (l:=ys) (k:=k) (by omega);rw[U4 _ hx hy] at hJ;refine kQ0 [1,2,15,16,17] ?_;refine kA3 ?_;refine xW fun b8=>?_
 refine kQ2 [1,2,7,8,15,16,17] ?_;refine kA4 ?_;refine xW fun b9=>?_
 refine kQ1 [1,2,8,9,15,16,17] ?_;refine kA3 ?_;refine Q9 (Ev.tmp rfl) (E2 (Ev.tmp rfl) (Ev.tmp rfl)) (hq x (List.mem_of_getElem? hx) y (List.mem_of_getElem? hy) _ Sb) Lb ?_;refine kQ1 [1,2,15,16,17,30] ?_;refine wc (fun c30=>?_) fun c30=>?_
 have d30:pr x y=false:=by simpa using c30
 rw[d30] at hJ;refine kQ1 [6] ?_;refine wT h ?_;exact⟨by rw[hJ];rfl,rfl⟩;have d30:pr x y=true:=by simpa using c30
 rw[d30,Bool.true_and] at hJ;refine kQ0 [1,2,15,16,17] ?_;refine kA2 ?_;refine WL.nil (B1 (n1 - (k+1)) [(17,.int .i64 (k+1))] (h'':=h) (by omega) ?_ Su Sb ⟨k+1,⟨by omega,hJ⟩,rfl,rfl,rfl⟩);exact Su;replace c18:=dF c18;refine kQ0 [] ?_;refine kQ1 [6] ?_;refine wT h ?_;exact⟨by rw[hJ,List.drop_eq_nil_of_le (by omega),List.drop_eq_nil_of_le (by omega)];rfl,rfl⟩
structure SRd (m:View) (h:List Res) (s:Sp):Prop where
 b:Rd m h s.ba s.bl.length s.bc 42 (fl prE s.bl)
 nr:Rd m h s.names.a s.names.l.length s.names.c 1 (fl encB s.names.l)
 e:TOk m h s.e
 v:PrOk m h s.vs.a s.vs.l.length s.vs.c s.vs.l
 fr:Rd m h s.fs.a s.fs.l.length s.fs.c 6 (fl foE s.fs.l)
theorem SRd.mono {m:View} {h h':List Res} {s:Sp} (q:SRd m h s) (r:h.Sublist h'):SRd m h' s:=⟨q.b.mono Vl r,q.nr.mono Vl r,q.e.mono r,q.v.mono Vl r,q.fr.mono Vl r⟩
theorem SRd.of {m:View} {h:List Res} {s:Sp} (q:SOk m h s):SRd m h s:=⟨q.b,q.nr,q.e.t,q.v,q.fr⟩
set_option maxHeartbeats 1000000 in
theorem b3b {m:View} {h:List Res} (x y:Sp) (hx:SRd m h x) (hy:SRd m h y):CT Tryz.prog 153 [spV x,spV y] h m (A9 h (.bool (I8 x y))):=by
 have n1:=hx.nr;have n2:=hy.nr;have f1:=hx.fr;have f2:=hy.fr;have v1:=hx.v.rd;have v2:=hy.v.rd;refine CT.body Tryz.call153 Tryz.func153 rfl Tryz.ntmps153 Lb rfl ?_;refine j0 ?_;refine xX fun b2=>?_
 refine xX fun b3=>?_
 refine kQ1 [2,3] ?_;refine xG (PO.assign Ef) ?_;refine kQ0 [2,3,5] ?_;refine b4X ?_;refine H9 (GU.t rfl rfl) (fun hc=>a2z b4O (by kernel_rfl) (by kernel_rfl) (Eg hc) (Eg hc) rfl) Lb ?_;refine kA6 ?_;refine B4 (GU.t rfl rfl) (fun hc=>⟨Ef,(E2 (Eg hc) (Eg hc)),CT.val (b7f _ _ _ _ _ _ x.names.l y.names.l _ _ (n1.mono Vl Sb) (n2.mono Vl Sb)) (congrArg Value.bool (c0f c6H x.names.l y.names.l))⟩) Lb ?_;refine kA6 ?_;refine B4 (GU.t rfl rfl) (fun hc=>⟨Ef,(E2 (Eg hc) (Eg hc)),b9e x.e y.e _ _ (hx.e.mono Sb) (hy.e.mono Sb)⟩) Lb ?_;refine kA8 ?_;refine zG (fun hc=>c7H uu4 (Eg hc) (Eg hc)) ?_;refine kA9 ?_;refine B4 (GU.t rfl rfl) (fun hc=>⟨Ef,(E3 (Eg hc) (Eg hc) (Eg hc)),c6G 200 L5 _ _ _ _ _ _ x.vs.l y.vs.l _ _ (v1.mono Vl Sb) (v2.mono Vl Sb) (fun u hu w hw h' hh=>d2W u w ((hx.v.ok u hu).mono Vl (List.Sublist.trans Sb hh)) ((hy.v.ok w hw).mono Vl (List.Sublist.trans Sb hh)))⟩) Lb ?_;refine kA6 ?_
 refine B4 (GU.t rfl rfl) (fun hc=>⟨Ef,(E2 (Eg hc) (Eg hc)),b6G _ _ _ _ _ _ _ _ _ _ Rr Rr⟩) Lb ?_;refine c6A [4] ?_;refine wT h ?_;exact⟨rfl,rfl⟩
theorem b6O (m:View) (h:List Res):SRd m h A6:=⟨Rd.nilF prE 42 m h,Rd.nilF encB 1 m h,b0R m h,⟨Rd.nilF encV 2 m h,fun _ hv=>(by cases hv),fun _ hv=>(by cases hv)⟩,Rd.nilF foE 6 m h⟩
theorem c5C {m:View} {h:List Res} (x:Sp) (hx:SRd m h x):CT Tryz.prog 89 [spV x,spV A6] h m (A9 h (.bool (I8 x A6))):=by
 refine CT.body Tryz.call89 Tryz.func89 rfl Tryz.ntmps89 Lb rfl ?_;refine j0 ?_;refine xX fun b2=>?_
 refine xX fun b3=>?_
 refine kQ1 [2,3] ?_;refine kA2 ?_;refine xf (E2 Et Et) (b3b x A6 (hx.mono Sb) (b6O _ _)) ?_;refine kA5 ?_;refine B4 (GU.t rfl rfl) (fun hc=>⟨Ef,(E3 (Eg hc) (Eg hc) Ef),CT.val (c8Q 155 (fun _ _=>true) _ _ _ _ _ _ x.bl [] _ _ (hx.b.mono Vl Sb) (Rd.nilF prE 42 _ _) (fun _ _ y hy=>by cases hy)) (congrArg Value.bool (by rw[c9z hc]))⟩) Lb ?_;refine kQ2 [4] ?_;refine wT h ?_;exact⟨congrArg Value.bool (Bool.and_true _),rfl⟩
end
end Go.Proofs.YtkemgjnejlkkcaaGreatDoor

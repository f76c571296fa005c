import Derived.Test.YtmhkeomphdddaaaGreatDoorLListsY3
import Derived.Test.YtmhkeomphdddaaaGreatDoorProg
import Derived.Test.YtmhkeomphdddaaaGreatDoorShelfJ
import Derived.Test.YtmhkeomphdddaaaGreatDoorRows
set_option maxRecDepth 100000
set_option maxHeartbeats 2000000
namespace Go.Proofs.YtmhkeomphdddaaaGreatDoor
section
set_option linter.defProp false
abbrev uu2:=Tryz.underlying2
@[reducible,instance]def i2:=Go.Eng.Ud.mk uu2
abbrev uu3:=Tryz.underlying3
@[reducible,instance]def i3:=Go.Eng.Ud.mk uu3
abbrev uu4:=Tryz.underlying4
@[reducible,instance]def i4:=Go.Eng.Ud.mk uu4
abbrev uu5:=Tryz.underlying5
@[reducible,instance]def i5:=Go.Eng.Ud.mk uu5
abbrev uu9:=Tryz.underlying9
@[reducible,instance]def i9:=Go.Eng.Ud.mk uu9
abbrev b8M:=Tryz.underlying20
@[reducible,instance]def i20:=Go.Eng.Ud.mk b8M
abbrev a2o:=Tryz.underlying21
@[reducible,instance]def i21:=Go.Eng.Ud.mk a2o
abbrev b1T:=Tryz.underlying22
@[reducible,instance]def i22:=Go.Eng.Ud.mk b1T
abbrev c4m:=Tryz.underlying23
@[reducible,instance]def i23:=Go.Eng.Ud.mk c4m
abbrev c4y:=Tryz.underlying24
@[reducible,instance]def i24:=Go.Eng.Ud.mk c4y
abbrev c3J:=Tryz.underlying25
@[reducible,instance]def i25:=Go.Eng.Ud.mk c3J
abbrev c1w:=Tryz.underlying26
@[reducible,instance]def i26:=Go.Eng.Ud.mk c1w
abbrev c3y:=Tryz.underlying27
@[reducible,instance]def i27:=Go.Eng.Ud.mk c3y
abbrev a1t:=Tryz.underlying29
@[reducible,instance]def i29:=Go.Eng.Ud.mk a1t
abbrev c1A:=Tryz.underlying31
@[reducible,instance]def i31:=Go.Eng.Ud.mk c1A
abbrev c3Z:=Tryz.underlying32
@[reducible,instance]def i32:=Go.Eng.Ud.mk c3Z
abbrev c1Y:=Tryz.underlying33
@[reducible,instance]def i33:=Go.Eng.Ud.mk c1Y
abbrev c4k:=Tryz.underlying34
@[reducible,instance]def i34:=Go.Eng.Ud.mk c4k
abbrev c4n:=Tryz.underlying35
@[reducible,instance]def i35:=Go.Eng.Ud.mk c4n
abbrev a9m:=Tryz.underlying37
@[reducible,instance]def i37:=Go.Eng.Ud.mk a9m
abbrev c4c:=Tryz.underlying38
@[reducible,instance]def i38:=Go.Eng.Ud.mk c4c
abbrev c1n:=Tryz.underlying39
@[reducible,instance]def i39:=Go.Eng.Ud.mk c1n
abbrev b6Z:=Tryz.underlying41
@[reducible,instance]def i41:=Go.Eng.Ud.mk b6Z
abbrev c4u:=Tryz.underlying42
@[reducible,instance]def i42:=Go.Eng.Ud.mk c4u
abbrev a8c:=Tryz.underlying44
@[reducible,instance]def i44:=Go.Eng.Ud.mk a8c
abbrev S1:=Tryz.underlying46
@[reducible,instance]def i46:=Go.Eng.Ud.mk S1
abbrev b5l:=Tryz.underlying47
@[reducible,instance]def i47:=Go.Eng.Ud.mk b5l
abbrev b9p:=Tryz.underlying53
@[reducible,instance]def i53:=Go.Eng.Ud.mk b9p
abbrev b7P:=Tryz.underlying58
@[reducible,instance]def i58:=Go.Eng.Ud.mk b7P
abbrev c2n:=Tryz.underlying63
@[reducible,instance]def i63:=Go.Eng.Ud.mk c2n
abbrev c3K:=Tryz.underlying70
@[reducible,instance]def i70:=Go.Eng.Ud.mk c3K
abbrev c0F:=Tryz.underlying88
@[reducible,instance]def i88:=Go.Eng.Ud.mk c0F
abbrev c4z:=Tryz.underlying98
@[reducible,instance]def i98:=Go.Eng.Ud.mk c4z
abbrev b4a:=Tryz.underlying100
@[reducible,instance]def i100:=Go.Eng.Ud.mk b4a
abbrev a4Q:=Tryz.underlying102
@[reducible,instance]def i102:=Go.Eng.Ud.mk a4Q
abbrev b0w:=Tryz.underlying105
@[reducible,instance]def i105:=Go.Eng.Ud.mk b0w
abbrev c0N:=Tryz.underlying108
@[reducible,instance]def i108:=Go.Eng.Ud.mk c0N
abbrev a2L:=Tryz.underlying116
@[reducible,instance]def i116:=Go.Eng.Ud.mk a2L
abbrev a5P:=Tryz.underlying118
@[reducible,instance]def i118:=Go.Eng.Ud.mk a5P
abbrev H2:=Tryz.underlying120
@[reducible,instance]def i120:=Go.Eng.Ud.mk H2
abbrev Z0:=Tryz.underlying121
@[reducible,instance]def i121:=Go.Eng.Ud.mk Z0
abbrev b7x:=Tryz.underlying123
@[reducible,instance]def i123:=Go.Eng.Ud.mk b7x
abbrev c1e:=Tryz.underlying126
@[reducible,instance]def i126:=Go.Eng.Ud.mk c1e
abbrev c2X:=Tryz.underlying129
@[reducible,instance]def i129:=Go.Eng.Ud.mk c2X
abbrev b3j:=Tryz.underlying154
@[reducible,instance]def i154:=Go.Eng.Ud.mk b3j
abbrev Q9:=Tryz.underlying167
@[reducible,instance]def i167:=Go.Eng.Ud.mk Q9
abbrev c3D:=Tryz.underlying171
@[reducible,instance]def i171:=Go.Eng.Ud.mk c3D
abbrev U9:=Tryz.underlying183
@[reducible,instance]def i183:=Go.Eng.Ud.mk U9
abbrev c1g:=Tryz.underlying187
@[reducible,instance]def i187:=Go.Eng.Ud.mk c1g
abbrev c0W:=Tryz.underlying190
@[reducible,instance]def i190:=Go.Eng.Ud.mk c0W
abbrev b3A:=Tryz.underlying197
@[reducible,instance]def i197:=Go.Eng.Ud.mk b3A
abbrev b1N:=Tryz.underlying201
@[reducible,instance]def i201:=Go.Eng.Ud.mk b1N
abbrev c0Y:=Tryz.underlying204
@[reducible,instance]def i204:=Go.Eng.Ud.mk c0Y
abbrev c3x:=Tryz.underlying226
@[reducible,instance]def i226:=Go.Eng.Ud.mk c3x
abbrev c3M:=Tryz.underlying231
@[reducible,instance]def i231:=Go.Eng.Ud.mk c3M
abbrev c1d:=Tryz.underlying237
@[reducible,instance]def i237:=Go.Eng.Ud.mk c1d
abbrev b7q:=Tryz.underlying247
@[reducible,instance]def i247:=Go.Eng.Ud.mk b7q
abbrev b1L:=Tryz.underlying249
@[reducible,instance]def i249:=Go.Eng.Ud.mk b1L
abbrev a5N:=Tryz.underlying250
@[reducible,instance]def i250:=Go.Eng.Ud.mk a5N
abbrev a98:=Tryz.underlying253
@[reducible,instance]def i253:=Go.Eng.Ud.mk a98
abbrev b6G:=Tryz.underlying257
@[reducible,instance]def i257:=Go.Eng.Ud.mk b6G
abbrev b6k:=Tryz.underlying290
@[reducible,instance]def i290:=Go.Eng.Ud.mk b6k
abbrev b3K:=Tryz.underlying305
@[reducible,instance]def i305:=Go.Eng.Ud.mk b3K
abbrev b6e:=Tryz.underlying309
@[reducible,instance]def i309:=Go.Eng.Ud.mk b6e
abbrev c0X:=Tryz.underlying317
@[reducible,instance]def i317:=Go.Eng.Ud.mk c0X
end
section
open Go.Eng Go
theorem D6:Tryz.prog.follows .mixedOrders=true:=by kernel_rfl
theorem a4K:EL Tryz.prog 22 53 3 32:=⟨_,_,rfl,rfl,rfl,rfl,rfl,rfl,by decide⟩
set_option linter.defProp false in
@[reducible,instance]def iEL22:=Go.Eng.Es.mk a4K
theorem Y9:EL Tryz.prog 27 29 6 48:=⟨_,_,rfl,rfl,rfl,rfl,rfl,rfl,by decide⟩
set_option linter.defProp false in
@[reducible,instance]def iEL27:=Go.Eng.Es.mk Y9
theorem c1X:EL Tryz.prog 32 102 23 240:=⟨_,_,rfl,rfl,rfl,rfl,rfl,rfl,by decide⟩
set_option linter.defProp false in
@[reducible,instance]def iEL32:=Go.Eng.Es.mk c1X
theorem Z8:EL Tryz.prog 33 46 42 504:=⟨_,_,rfl,rfl,rfl,rfl,rfl,rfl,by decide⟩
set_option linter.defProp false in
@[reducible,instance]def iEL33:=Go.Eng.Es.mk Z8
theorem c1C:EL Tryz.prog 34 3 1 8:=⟨_,_,rfl,rfl,rfl,rfl,rfl,rfl,by decide⟩
set_option linter.defProp false in
@[reducible,instance]def iEL34:=Go.Eng.Es.mk c1C
theorem M1:EL Tryz.prog 38 9 1 16:=⟨_,_,rfl,rfl,rfl,rfl,rfl,rfl,by decide⟩
set_option linter.defProp false in
@[reducible,instance]def iEL38:=Go.Eng.Es.mk M1
theorem a1Q:EL Tryz.prog 39 201 2 40:=⟨_,_,rfl,rfl,rfl,rfl,rfl,rfl,by decide⟩
set_option linter.defProp false in
@[reducible,instance]def iEL39:=Go.Eng.Es.mk a1Q
theorem b8Q:EL Tryz.prog 42 154 6 64:=⟨_,_,rfl,rfl,rfl,rfl,rfl,rfl,by decide⟩
set_option linter.defProp false in
@[reducible,instance]def iEL42:=Go.Eng.Es.mk b8Q
theorem c3H:EL Tryz.prog 58 5 1 1:=⟨_,_,rfl,rfl,rfl,rfl,rfl,rfl,by decide⟩
set_option linter.defProp false in
@[reducible,instance]def iEL58:=Go.Eng.Es.mk c3H
theorem A6:EL Tryz.prog 121 120 4 40:=⟨_,_,rfl,rfl,rfl,rfl,rfl,rfl,by decide⟩
set_option linter.defProp false in
@[reducible,instance]def iEL121:=Go.Eng.Es.mk A6
theorem b3v:EL Tryz.prog 197 26 1 1:=⟨_,_,rfl,rfl,rfl,rfl,rfl,rfl,by decide⟩
set_option linter.defProp false in
@[reducible,instance]def iEL197:=Go.Eng.Es.mk b3v
theorem K7:EL Tryz.prog 226 121 1 24:=⟨_,_,rfl,rfl,rfl,rfl,rfl,rfl,by decide⟩
set_option linter.defProp false in
@[reducible,instance]def iEL226:=Go.Eng.Es.mk K7
theorem a8u:EL Tryz.prog 231 100 1 1:=⟨_,_,rfl,rfl,rfl,rfl,rfl,rfl,by decide⟩
set_option linter.defProp false in
@[reducible,instance]def iEL231:=Go.Eng.Es.mk a8u
def c1i:List Value:=[.int .u8 1,str [73,78,84],.int .i64 4,.int .u8 2,str [66,89,84,69],.int .i64 1,.int .u8 3,str [66,79,79,76],.int .i64 1]
def a7m:List Value:=[.int .i64 1,.int .i64 1]
def a5X:List Value:=[.int .i64 1,.int .i64 8]
def b9u:List Value:=[.int .i64 0,.int .i64 2048]
structure Glob (m:View):Prop where
 max:∃ x,m.cell ⟨2,0,none⟩=some (.int .i64 x)
 prim:∀ j v,c1i[j]?=some v->m.cell ⟨4,j,none⟩=some v
 sOne:∀ j v,a7m[j]?=some v->m.cell ⟨1,j,none⟩=some v
 sSome:∀ j v,a5X[j]?=some v->m.cell ⟨3,j,none⟩=some v
 sAll:∀ j v,b9u[j]?=some v->m.cell ⟨0,j,none⟩=some v
theorem a0t {m:View} (hg:Glob m) (a b:List UInt8) (ha:a.length < 4294967281) (h:List Res):CT Tryz.prog 46 [str a,str b] h m (A3 h (.bool (Lib.contains a b))):=by
 obtain⟨x,hx⟩:=hg.max;exact CT.ofCalls Tryz.call46 fun w st=>Tryz.strings_Contains ⟨a.toArray⟩ ⟨b.toArray⟩ x w ha (st.cell hx)
end
section
open Go.Eng Go.Lx
theorem a3Z (z:Int) (h:List Res) (m:View):CT Tryz.prog 153 [.int .u8 z] h m (A3 h (.bool (ltr z))):=by
 refine CT.body Tryz.call153 Tryz.func153 rfl Tryz.ntmps153 Lb rfl ?_;refine kQ1 [0] ?_;refine a6M ?_;refine zG (fun hc=>Q4 hc rfl rfl) ?_;refine kQ2 [2] ?_;refine wT h ?_;exact⟨rfl,rfl⟩
theorem a7B (z:Int) (h:List Res) (m:View):CT Tryz.prog 155 [.int .u8 z] h m (A3 h (.bool (dig z))):=by
 refine CT.body Tryz.call155 Tryz.func155 rfl Tryz.ntmps155 Lb rfl ?_;refine kQ1 [0] ?_;refine kQ7 [2] ?_;refine wT h ?_;exact⟨rfl,rfl⟩
theorem a5A (s:B) (h:List Res) (m:View) (hs:s.length<=9223372036854775807):CT Tryz.prog 180 [str s] h m (A3 h (.int .i64 (run s))):=by
 refine CT.body Tryz.call180 Tryz.func180 rfl Tryz.ntmps180 Lb rfl ?_;refine kQ1 [0] ?_;refine kA1 ?_;refine xG (L2 uu9 Et) ?_;refine kQ1 [0,5,6] ?_;refine B0 [0,5] rfl (fun μ F' h'=>∃ k:Nat,(k<=s.length/\run s=k+run (s.drop k))/\s.length - k=μ/\F'=[(6,.int .i64 k)]/\h=h') (s.length - 0) [(6,.int .i64 0)] (h0:=h) ?_ Sb ⟨0,⟨by omega,by simp⟩,rfl,rfl,rfl⟩ ?_;exact Su;rintro _ _ _ ⟨k,⟨hk,hJ⟩,rfl,rfl,rfl⟩;refine B1 rfl ?_;refine kQ1 [0,5,6,7] ?_;refine wc (fun c7=>?_) fun c7=>?_
 replace c7:=dT c7;obtain⟨c,hc⟩:=A5 (l:=s) (k:=k) (by omega);have hr:=b7G hc;refine kQ0 [0,5,6] ?_;refine kQ2 [0,3,5,6] ?_;refine kA2 ?_;refine xG (I7 uu9 Et Et rfl (by assumption)) ?_;refine xf (E1 Et) (a3Z _ _ _) ?_;refine kA4 ?_;refine zG (fun hc=>I7 uu9 (Eg hc) (Eg hc) rfl (by assumption)) ?_;refine A7 (GU.t rfl rfl) (fun hc=>⟨Ef,(E1 (Eg hc)),a7B _ _ _⟩) Lb ?_;refine kA5 ?_;refine zG (fun hc=>I7 uu9 (Eg hc) (Eg hc) rfl (by assumption)) ?_;refine kQ2 [0,3,5,6,26] ?_;refine wc (fun c26=>?_) fun c26=>?_
 have w:wch c=false:=by unfold wch;rw[c26];rfl
 rw[w] at hr;refine kQ2 [2] ?_;refine wT h ?_;exact⟨by simp at hr;rw[hJ,hr];rfl,rfl⟩;have w:wch c=true:=by unfold wch;rw[c26];rfl
 rw[w] at hr;refine kQ0 [0,5,6] ?_;refine kA2 ?_;refine WL.nil (A4 (s.length - (k+1)) [(6,.int .i64 (k+1))] (h'':=h) (by omega) ?_ Su Sb ⟨k+1,⟨by omega,by simp at hr;omega⟩,rfl,rfl,rfl⟩);exact Su;replace c7:=dF c7;have e:k=s.length:=by omega
 subst e;have hr:run s=s.length:=by simpa [run] using hJ
 refine kQ0 [0] ?_;refine kA1 ?_;refine xG (L2 uu9 Et) ?_;refine kQ1 [2] ?_;refine wT h ?_;exact⟨by rw[hr],rfl⟩
theorem a5H (s:B) (h:List Res) (m:View) (hg:Glob m) (hs:s.length<=140737488355328):CT Tryz.prog 174 [str s] h m (A3 h (.bool (key s))):=by
 have hs':s.length<=9223372036854775807:=by omega
 refine CT.body Tryz.call174 Tryz.func174 rfl Tryz.ntmps174 Lb rfl ?_;refine kQ1 [0] ?_;refine kA1 ?_;refine xG (P2 Et Ek) ?_;refine kA2 ?_;refine A7 (GU.t rfl rfl) (fun hc=>⟨Ef,(E1 (Eg hc)),a5A _ _ _ (by assumption)⟩) Lb ?_;refine kA1 ?_;refine zG (fun hc=>L2 uu9 (Eg hc)) ?_;refine kA4 ?_;refine F6 (GU.t rfl rfl) (fun hc=>G3 Ek (Eg hc) (by simp;omega)) Lb ?_;refine F6 (GU.t rfl rfl) (fun hc=>G3 (Eg hc) Ek (by simp;omega)) Lb ?_;refine A7 (GU.t rfl rfl) (fun hc=>⟨Ef,(E2 Ek (Eg hc)),CT.argsE rfl (a0t hg a4G ([32]++s++[32]) (by decide) _)⟩) Lb ?_;refine kQ2 [2] ?_;refine wT h ?_;exact⟨rfl,rfl⟩
theorem Z6 (s:B) (h:List Res) (m:View) (hg:Glob m) (hs:s.length<=9223372036854775807):CT Tryz.prog 119 [str s] h m (A3 h (.bool (name s))):=by
 have hs':s.length<=9223372036854775807:=by omega
 cases s with
 | nil=>
  refine CT.body Tryz.call119 Tryz.func119 rfl Tryz.ntmps119 Lb rfl ?_;refine kQ1 [0] ?_;refine kA1 ?_;refine xG (P2 Et Ek) ?_;refine kA2 ?_;refine zG (fun hc=>L2 uu9 (Eg hc)) ?_;refine kA4 ?_;refine F6 (GU.t rfl rfl) (fun hc=>I7 uu9 (Eg hc) Ek (q:=0) rfl (c:=0) (by simp at hc)) Lb ?_;refine A7 (GU.t rfl rfl) (fun hc=>⟨Ef,(E1 (Eg hc)),a3Z _ _ _⟩) Lb ?_;refine kA3 ?_;refine A7 (GU.t rfl rfl) (fun hc=>⟨Ef,(E1 (Eg hc)),a5A _ _ _ (by assumption)⟩) Lb ?_;refine kA1 ?_;refine zG (fun hc=>L2 uu9 (Eg hc)) ?_;refine kA4 ?_;refine A7 (GU.t rfl rfl) (fun hc=>⟨Ef,(E1 (Eg hc)),a5H _ _ _ hg (by decide)⟩) Lb ?_;refine kQ3 [2] ?_;refine wT h ?_;exact⟨rfl,rfl⟩
 | cons c s=>
  refine CT.body Tryz.call119 Tryz.func119 rfl Tryz.ntmps119 Lb rfl ?_;refine kQ1 [0] ?_;refine kA1 ?_;refine xG (P2 Et Ek) ?_;refine kA2 ?_;refine zG (fun hc=>L2 uu9 (Eg hc)) ?_;refine kA4 ?_;refine zG (fun hc=>I7 uu9 (Eg hc) Ek (q:=0) rfl (c:=c) rfl) ?_;refine A7 (GU.t rfl rfl) (fun hc=>⟨Ef,(E1 (Eg hc)),a3Z _ _ _⟩) Lb ?_;refine kA3 ?_;refine A7 (GU.t rfl rfl) (fun hc=>⟨Ef,(E1 (Eg hc)),a5A _ _ _ (by assumption)⟩) Lb ?_;refine kA1 ?_;refine zG (fun hc=>L2 uu9 (Eg hc)) ?_;refine kA4 ?_;refine A7 (GU.t rfl rfl) (fun hc=>⟨Ef,(E1 (Eg hc)),a5H _ _ _ hg (by simp at hc;simp;omega)⟩) Lb ?_;refine kQ3 [2] ?_;refine wT h ?_;exact⟨rfl,rfl⟩
end
section
open Go.Eng Go.Lx
end
section
open Go.Eng Go.Xp Go
theorem a9C (k:Int) (h:List Res) (m:View):CT Tryz.prog 231 [.int .u8 k] h m (A3 h (str (K4 k))):=by
 refine CT.body Tryz.call231 Tryz.func231 rfl Tryz.ntmps231 Lb rfl ?_;refine kQ1 [0] ?_;refine kQ1 [3] ?_;refine kQ2 [3,4] ?_;refine wc (fun c4=>?_) fun c4=>?_
 replace c4:=F9 c4;refine kQ1 [2] ?_;refine wT h ?_;exact⟨by unfold K4;rw[if_pos c4],rfl⟩;replace c4:=F7 c4;refine kQ2 [3,6] ?_;refine wc (fun c6=>?_) fun c6=>?_
 replace c6:=F9 c6;refine kQ1 [2] ?_;refine wT h ?_;exact⟨by unfold K4;rw[if_neg c4,if_pos c6],rfl⟩;replace c6:=F7 c6;refine kQ2 [8] ?_;refine wc (fun c8=>?_) fun c8=>?_
 replace c8:=F9 c8;refine kQ1 [2] ?_;refine wT h ?_;exact⟨by unfold K4;rw[if_neg c4,if_neg c6,if_pos c8],rfl⟩;replace c8:=F7 c8;refine kQ0 [] ?_;refine kQ1 [2] ?_;refine wT h ?_;exact⟨by unfold K4;rw[if_neg c4,if_neg c6,if_neg c8],rfl⟩
theorem c3u {o:Int} (h:0<=o/\o<=255):IntKind.i64.wrap o=o:=by
 rw[IntKind.wrap_i64];omega
theorem a6x (o:Int) (ho:0<=o/\o<=255) (h:List Res) (m:View):CT Tryz.prog 261 [.int .u8 o] h m (A3 h (.tuple #[str (a1j o).1,.bool (a1j o).2])):=by
 have hw:=c3u ho;refine CT.body Tryz.call261 Tryz.func261 rfl Tryz.ntmps261 Lb rfl ?_;refine kQ2 [0] ?_;refine xG (a3d b6e rfl rfl rfl Eb (by exact rfl)) ?_;refine xW fun b4=>?_
 refine kQ1 [0,4] ?_;refine kA4 ?_;refine zG (fun hc=>PO.conv c3J uu3 (Eg hc)) ?_;refine kQ2 [0,4,12] ?_;refine wc (fun c12=>?_) fun c12=>?_
 rw[hw] at c12;refine kQ2 [2,3] ?_;refine w2 h ?_;exact⟨by unfold a1j;rw[if_pos c12],rfl⟩;rw[hw] at c12;have ho2:o < 27:=by have:=c3X (a:=true) (b:=decide (o >= 27)) (by cases h9:(o==0) <;> simp_all);simpa using this
 have hq:o=(o.toNat:Int):=by omega
 have hv:(a4h.map str)[0+o.toNat * 1]?=some (str (a4h.getD o.toNat [])):=by
  rw[Nat.zero_add,Nat.mul_one,List.getElem?_map,List.getD_eq_getElem?_getD,List.getElem?_eq_getElem (show o.toNat < a4h.length by show o.toNat < 27;omega)];rfl
 refine kQ0 [0,4] ?_;refine kA1 ?_;refine xG (b3X (sz:=1) b6e rfl Et Et (q:=o.toNat) hq (by omega)) ?_;refine xG (D0 uu9 rfl Et (List.Mem.head _) hv) ?_;refine kQ2 [2,3] ?_;refine w2 h ?_;exact⟨by unfold a1j;rw[if_neg (by rw[c12];decide)],rfl⟩
theorem b7F {m:View} (hg:Glob m) (e:Ex) (hw:Wf e) (h:List Res):CT Tryz.prog 185 [exV e] h m (A3 h (.tuple #[.int .i64 (D4 e).1,.bool (D4 e).2])):=by
 obtain⟨⟨hk,ho,ht⟩,hn,hs⟩:=hw.spec;have hs2:e.s.length<=9223372036854775807:=by omega
 refine CT.body Tryz.call185 Tryz.func185 rfl Tryz.ntmps185 Lb rfl ?_;refine j0 ?_;refine xX fun b1=>?_
 refine kQ2 [1,2] ?_;refine kA1 ?_;refine xW fun b4=>?_
 refine kQ1 [1,2,4] ?_;refine kQ4 [1,2,4] ?_;refine kP2 [1,2,4,9] ?_;refine H9 KKh [4] rfl (fun F' h'=>∃ nn:Int,∃ o':Int,∃ t':Int,∃ n':Int,∃ s':B,(D4 e=(nn,fin o' t' n' s'))/\F'=[(2,.int .i64 nn)]/\.pt b4 (.cells [.int .u8 0,.int .u8 o',.int .u8 t',.int .i32 n',str s',.slice none 0 0].toArray 29 (0,0))::h=h') ?_ ?_;refine kQ2 [1,2,4,9,10] ?_;refine wc (fun c10=>?_) fun c10=>?_
 replace c10:=F9 c10;refine kA2 ?_;refine WL.nil (C8 [(2,.int .i64 0)] (h'':=.pt b4 (.cells [.int .u8 0,.int .u8 (e.o),.int .u8 (e.t),.int .i32 0,str (e.s),.slice none 0 0].toArray 29 (0,0))::h) ?_ Su Sb ⟨0,e.o,e.t,0,e.s,by simp[D4,c10],rfl,rfl⟩);exact Su;replace c10:=F7 c10;refine kQ2 [1,2,4,9,13] ?_;refine wc (fun c13=>?_) fun c13=>?_
 replace c13:=F9 c13;refine kA2 ?_;refine xG (PO.shr Et Ek (by decide)) ?_;refine kQ1 [2,4,18] ?_;refine wc (fun c18=>?_) fun c18=>?_
 replace c18:=a1i c18;refine kQ2 [2,3] ?_;refine w2 h ?_;exact⟨by simp[D4,c13,c18],rfl⟩;replace c18:=a0U c18;refine kQ0 [2,4] ?_;refine kA2 ?_;refine WL.nil (C8 [(2,.int .i64 0)] (h'':=.pt b4 (.cells [.int .u8 0,.int .u8 (e.o),.int .u8 (e.t),.int .i32 0,str (e.s),.slice none 0 0].toArray 29 (0,0))::h) ?_ Su Sb ⟨0,e.o,e.t,0,e.s,by simp[D4,c13,c18],rfl,rfl⟩);exact Su;replace c13:=F7 c13;refine kQ2 [1,2,4,9,20] ?_;refine wc (fun c20=>?_) fun c20=>?_
 replace c20:=F9 c20;refine kA2 ?_;refine xG (PO.shr Et Ek (by decide)) ?_;refine kQ1 [2,4,25] ?_;refine wc (fun c25=>?_) fun c25=>?_
 replace c25:=a1i c25;refine kQ2 [2,3] ?_;refine w2 h ?_;exact⟨by simp[D4,c20,c25],rfl⟩;replace c25:=a0U c25;refine kQ0 [2,4] ?_;refine kA2 ?_;refine WL.nil (C8 [(2,.int .i64 0)] (h'':=.pt b4 (.cells [.int .u8 0,.int .u8 (e.o),.int .u8 (e.t),.int .i32 0,str (e.s),.slice none 0 0].toArray 29 (0,0))::h) ?_ Su Sb ⟨0,e.o,e.t,0,e.s,by simp[D4,c20,c25],rfl,rfl⟩);exact Su;replace c20:=F7 c20;refine kQ2 [1,2,4,9,27] ?_;refine wc (fun c27=>?_) fun c27=>?_
 have hk4:e.k=4:=F9 c27;refine kQ0 [1,2,4,9,27] ?_;refine wc (fun c27=>?_) fun c27=>?_
 refine kA2 ?_;refine xf (E1 Et) (Z6 _ _ _ hg (by assumption)) ?_;refine kQ1 [1,2,4,34] ?_;refine wc (fun c34=>?_) fun c34=>?_
 have hnm:Go.Lx.name e.s=false:=by simpa using c34
 refine kQ2 [2,3] ?_;refine w2 h ?_;exact⟨by first | simp[D4,hk4,hnm] | simp[D4,hk9,hnm] | simp[D4,hk5,hnm],rfl⟩;have hnm:Go.Lx.name e.s=true:=by simpa using c34
 refine kQ0 [1,2,4] ?_;refine kQ2 [1,2,4] ?_;refine kQ3 [2,4,38] ?_;refine wc (fun c38=>?_) fun c38=>?_
 replace c38:=F9 c38;refine kA1 ?_;refine WL.nil (C8 [(2,.int .i64 1)] (h'':=.pt b4 (.cells [.int .u8 0,.int .u8 (e.o),.int .u8 (e.t),.int .i32 (e.n),str ([]),.slice none 0 0].toArray 29 (0,0))::h) ?_ Su Sb ⟨1,e.o,e.t,e.n,[],by simp[D4,c38,hnm],rfl,rfl⟩);exact Su;replace c38:=F7 c38;have hq:D4 e=(0,fin e.o e.t e.n []):=by first | exact absurd hk5 c38 | simp[D4,hk4,hnm] | simp[D4,hk9,hnm]
 refine WC.skip (C8 [(2,.int .i64 0)] (h'':=.pt b4 (.cells [.int .u8 0,.int .u8 (e.o),.int .u8 (e.t),.int .i32 (e.n),str ([]),.slice none 0 0].toArray 29 (0,0))::h) ?_ Su Sb ⟨0,e.o,e.t,e.n,[],hq,rfl,rfl⟩);exact Su;exact absurd hk4 (F7 c27);have n4:e.k≠4:=F7 c27;refine kQ2 [1,2,4,9,27] ?_;refine wc (fun c27=>?_) fun c27=>?_
 have hk9:e.k=9:=F9 c27;refine kQ0 [1,2,4,9,27] ?_;refine wc (fun c27=>?_) fun c27=>?_
 refine kA2 ?_;refine xf (E1 Et) (Z6 _ _ _ hg (by assumption)) ?_;refine kQ1 [1,2,4,34] ?_;refine wc (fun c34=>?_) fun c34=>?_
 have hnm:Go.Lx.name e.s=false:=by simpa using c34
 refine kQ2 [2,3] ?_;refine w2 h ?_;exact⟨by first | simp[D4,hk4,hnm] | simp[D4,hk9,hnm] | simp[D4,hk5,hnm],rfl⟩;have hnm:Go.Lx.name e.s=true:=by simpa using c34
 refine kQ0 [1,2,4] ?_;refine kQ2 [1,2,4] ?_;refine kQ3 [2,4,38] ?_;refine wc (fun c38=>?_) fun c38=>?_
 replace c38:=F9 c38;refine kA1 ?_;refine WL.nil (C8 [(2,.int .i64 1)] (h'':=.pt b4 (.cells [.int .u8 0,.int .u8 (e.o),.int .u8 (e.t),.int .i32 (e.n),str ([]),.slice none 0 0].toArray 29 (0,0))::h) ?_ Su Sb ⟨1,e.o,e.t,e.n,[],by simp[D4,c38,hnm],rfl,rfl⟩);exact Su;replace c38:=F7 c38;have hq:D4 e=(0,fin e.o e.t e.n []):=by first | exact absurd hk5 c38 | simp[D4,hk4,hnm] | simp[D4,hk9,hnm]
 refine WC.skip (C8 [(2,.int .i64 0)] (h'':=.pt b4 (.cells [.int .u8 0,.int .u8 (e.o),.int .u8 (e.t),.int .i32 (e.n),str ([]),.slice none 0 0].toArray 29 (0,0))::h) ?_ Su Sb ⟨0,e.o,e.t,e.n,[],hq,rfl,rfl⟩);exact Su;exact absurd hk9 (F7 c27);have n9:e.k≠9:=F7 c27;refine kQ2 [1,2,4,9,27] ?_;refine wc (fun c27=>?_) fun c27=>?_
 have hk5:e.k=5:=F9 c27;refine kA2 ?_;refine xf (E1 Et) (Z6 _ _ _ hg (by assumption)) ?_;refine kQ1 [1,2,4,34] ?_;refine wc (fun c34=>?_) fun c34=>?_
 have hnm:Go.Lx.name e.s=false:=by simpa using c34
 refine kQ2 [2,3] ?_;refine w2 h ?_;exact⟨by first | simp[D4,hk4,hnm] | simp[D4,hk9,hnm] | simp[D4,hk5,hnm],rfl⟩;have hnm:Go.Lx.name e.s=true:=by simpa using c34
 refine kQ0 [1,2,4] ?_;refine kQ2 [1,2,4] ?_;refine kQ3 [2,4,38] ?_;refine wc (fun c38=>?_) fun c38=>?_
 replace c38:=F9 c38;refine kA1 ?_;refine WL.nil (C8 [(2,.int .i64 1)] (h'':=.pt b4 (.cells [.int .u8 0,.int .u8 (e.o),.int .u8 (e.t),.int .i32 (e.n),str ([]),.slice none 0 0].toArray 29 (0,0))::h) ?_ Su Sb ⟨1,e.o,e.t,e.n,[],by simp[D4,c38,hnm],rfl,rfl⟩);exact Su;replace c38:=F7 c38;have hq:D4 e=(0,fin e.o e.t e.n []):=by first | exact absurd hk5 c38 | simp[D4,hk4,hnm] | simp[D4,hk9,hnm]
 refine WC.skip (C8 [(2,.int .i64 0)] (h'':=.pt b4 (.cells [.int .u8 0,.int .u8 (e.o),.int .u8 (e.t),.int .i32 (e.n),str ([]),.slice none 0 0].toArray 29 (0,0))::h) ?_ Su Sb ⟨0,e.o,e.t,e.n,[],hq,rfl,rfl⟩);exact Su;have n5:e.k≠5:=F7 c27;refine kQ2 [1,4,9,39] ?_;refine wc (fun c39=>?_) fun c39=>?_
 replace c39:=F9 c39;refine kQ9 [4,49] ?_;refine wc (fun c49=>?_) fun c49=>?_
 refine kQ2 [2,3] ?_;refine w2 h ?_;exact⟨by simp only[D4,c39,c49];rfl,rfl⟩;refine kQ0 [4] ?_;refine kA3 ?_;refine WL.nil (C8 [(2,.int .i64 1)] (h'':=.pt b4 (.cells [.int .u8 0,.int .u8 0,.int .u8 (e.t),.int .i32 (e.n),str (e.s),.slice none 0 0].toArray 29 (0,0))::h) ?_ Su Sb ⟨1,0,e.t,e.n,e.s,by simp only[D4,c39,c49];rfl,rfl,rfl⟩);exact Su;replace c39:=F7 c39;refine kQ2 [1,4,9,51] ?_;refine wc (fun c51=>?_) fun c51=>?_
 replace c51:=F9 c51;refine kQ8 [4,60] ?_;refine wc (fun c60=>?_) fun c60=>?_
 refine kQ2 [2,3] ?_;refine w2 h ?_;exact⟨by simp only[D4,c51,c60];rfl,rfl⟩;refine kQ0 [4] ?_;refine kA3 ?_;refine WL.nil (C8 [(2,.int .i64 2)] (h'':=.pt b4 (.cells [.int .u8 0,.int .u8 0,.int .u8 (e.t),.int .i32 (e.n),str (e.s),.slice none 0 0].toArray 29 (0,0))::h) ?_ Su Sb ⟨2,0,e.t,e.n,e.s,by simp only[D4,c51,c60];rfl,rfl,rfl⟩);exact Su;replace c51:=F7 c51;refine kQ2 [1,4,62] ?_;refine wc (fun c62=>?_) fun c62=>?_
 replace c62:=F9 c62;refine kA2 ?_;refine xf (E1 Et) (a9C _ _ _) ?_;refine xG (M6 Et Ek) ?_;refine kQ0 [4,67] ?_;refine wc (fun c67=>?_) fun c67=>?_
 refine kQ2 [2,3] ?_;refine w2 h ?_;exact⟨by simp only[D4,c62,c67];rfl,rfl⟩;refine kQ0 [4] ?_;refine kA3 ?_;refine WL.nil (C8 [(2,.int .i64 1)] (h'':=.pt b4 (.cells [.int .u8 0,.int .u8 (e.o),.int .u8 0,.int .i32 (e.n),str (e.s),.slice none 0 0].toArray 29 (0,0))::h) ?_ Su Sb ⟨1,e.o,0,e.n,e.s,by simp only[D4,c62,c67];rfl,rfl,rfl⟩);exact Su;replace c62:=F7 c62;refine kQ2 [2,3] ?_;refine w2 h ?_;exact⟨by simp[D4,c10,c13,c20,n4,n9,n5,c39,c51,c62],rfl⟩;rintro _ _ ⟨nn,o',t',n',s',hJ,rfl,rfl⟩;refine B1 rfl ?_;refine jE ?_;refine dS [] (.op 0 (.op 1 (.op 2 (.op 3 (.op 4 (.op 5 (.op 6 (.op 7 (.op 8 (.op 9 (.op 10 (.op 11 (.op 12 (.op 13 (.op 14 (.op 15 (.op 16 (.op 17 (.op 18 (.op 19 .nil)))))))))))))))))))) [20] D6 ?_;refine kA3 ?_;refine yG rfl (O0 Et Ek rfl) ?_;refine kA3 ?_;refine B6 rfl rfl (GU.t rfl rfl) (fun hc=>O0 (Eg hc) Ek rfl) Lb ?_;refine kA4 ?_
 refine B6 rfl rfl (GU.t rfl rfl) (fun hc=>O0 (Eg hc) Ek rfl) Lb ?_;refine kA4 ?_;refine B6 rfl rfl (GU.t rfl rfl) (fun hc=>M6 (Eg hc) Ek) Lb ?_;refine kA1 ?_;refine yG rfl (PO.assign Et) ?_;refine SR.nil rfl rfl ?_;refine kQ1 [2,3] ?_;refine w2 h ?_;exact⟨by rw[hJ];rfl,rfl⟩
end
section
open Go.Eng Go.Xp Go
end
section
open Go.Eng Go.Xp Go
abbrev a5y (b:Nat) (v:Int):Res:=.pt b (.cells [Value.int .i64 v].toArray 3 (0,0))
abbrev c2R (bl bv:Nat):Res:=.pt bv (.cells [Value.func (.func 184) #[] #[.pointer (some ⟨bl,0,none⟩),.pointer (some ⟨bv,0,none⟩)]].toArray 237 (0,0))
theorem b6j {m:View} (hg:Glob m) (bl bv:Nat) (e:Ex):∀ (h:List Res) (deep left:Int),c2R bl bv ∈ h->TOk m h e->Wf e->(0<=deep/\deep<=33)->(0<=left/\left<=1000000) ->
 CT Tryz.prog 184 [exV e,.int .i64 deep,.pointer (some ⟨bl,0,none⟩),.pointer (some ⟨bv,0,none⟩)] (a5y bl left::h) m
  (fun v _ h'=>∃ left',v=.bool (O5 deep left e).isSome/\(∀ q,O5 deep left e=some q->left'=q)/\h'=a5y bl left'::h):=by
 refine Ex.ind (p:=fun e=>∀ (h:List Res) (deep left:Int),c2R bl bv ∈ h->TOk m h e->Wf e->(0<=deep/\deep<=33)->(0<=left/\left<=1000000) ->
  CT Tryz.prog 184 [exV e,.int .i64 deep,.pointer (some ⟨bl,0,none⟩),.pointer (some ⟨bv,0,none⟩)] (a5y bl left::h) m
   (fun v _ h'=>∃ left',v=.bool (O5 deep left e).isSome/\(∀ q,O5 deep left e=some q->left'=q)/\h'=a5y bl left'::h)) (fun e ih h deep left hv hT hW hd hl=>?_) e
 have hr:=hT.rd;have hmx:=hr.mx;have hkx:=hr.le;have he:=a2h deep left e;refine CT.body Tryz.call184 Tryz.func184 rfl Tryz.ntmps184 Lb rfl ?_;refine j0 ?_;refine xX fun b4=>?_
 refine kQ1 [1,2,3,4] ?_;refine kA1 ?_;refine xf (E1 Et) (b7F hg _ (by assumption) _) ?_;refine kQ5 [1,2,3,4,7,8] ?_;refine kA1 ?_;refine xG (U0 Et Ek (by omega)) ?_;refine kQ1 [1,2,3,4,7,8] ?_;refine kA3 ?_;refine zG (fun _=>pL uu3) ?_;refine a6M ?_;refine kQ1 [1,3,4,34] ?_;refine wc (fun c34=>?_) fun c34=>?_
 replace c34:a4P deep left e=true:=c34;rw[c34,if_pos rfl] at he;refine kQ1 [6] ?_;refine wT (a5y bl (left - 1)::h) ?_;exact⟨_,by rw[he];rfl,by (intro q hq;rw[he] at hq;cases hq),rfl⟩;replace c34:a4P deep left e=false:=c34;rw[c34,if_neg (by decide)] at he;have hb:=b01 c34;refine kQ0 [1,3,4] ?_;refine kQ4 [1,3,36,37,38] ?_;refine B0 [1,3,36,37] rfl (fun μ F' h'=>∃ k:Nat,∃ z:Int,((k<=e.l.length/\0<=z/\z<=left)/\O5 deep left e=Z5 (deep+1) z (e.l.drop k))/\e.l.length - k=μ/\F'=[(38,.int .i64 k)]/\.pt b4 (.cells (exE e).toArray 29 (0,0))::a5y bl z::h=h') (e.l.length - 0) [(38,.int .i64 0)] (h0:=.pt b4 (.cells (exE e).toArray 29 (0,0))::a5y bl (left - 1)::h) ?_ Sb ⟨0,left - 1,⟨⟨by omega,by omega,by omega⟩,he⟩,rfl,rfl,rfl⟩ ?_;exact Su;rintro _ _ _ ⟨k,z,⟨⟨hk,hz0,hz1⟩,hJ⟩,rfl,rfl,rfl⟩;refine B1 rfl ?_
 have hrk:Rd m (.pt b4 (.cells (exE e).toArray 29 (0,0))::a5y bl z::h) e.a e.l.length e.c 6 (fl exE e.l):=hr.mono Vl Sb;refine kQ1 [1,3,36,37,38,39] ?_;refine wc (fun c39=>?_) fun c39=>?_
 replace c39:=dT c39;obtain⟨x,hx⟩:=A5 (l:=e.l) (k:=k) (by omega);have hxm:=List.mem_of_getElem? hx;rw[b5M hx] at hJ;refine kQ0 [1,3,36,37,38] ?_;refine kA2 ?_;refine xW fun b10=>?_
 refine kQ1 [1,3,10,36,37,38] ?_;refine xG (D0 c1d rfl Et (List.mem_cons_of_mem _ (List.mem_cons_of_mem _ (List.mem_cons_of_mem _ hv))) rfl) ?_;refine kA3 ?_;refine pD (a5y bl z) ?_;refine F3 (Ev.tmp rfl) (E2 (Ev.tmp rfl) (Ev.tmp rfl)) (ih x hxm _ (deep+1) z (List.mem_cons_of_mem _ (List.mem_cons_of_mem _ hv)) ((hT.part hxm).mono Sb) (hW.part hxm) (by omega) (by omega)) Lb ?_;rintro _ _ ⟨z46,rfl,y46,rfl⟩;refine pD (.pt b4 _) ?_;refine kQ1 [1,3,36,37,38,47] ?_;refine wc (fun c47=>?_) fun c47=>?_
 have hn:O5 (deep+1) z x=none:=by simpa using c47
 rw[hn] at hJ;refine kQ1 [6] ?_;refine wT (a5y bl z46::h) ?_;exact⟨_,by rw[hJ];rfl,by (intro q hq;rw[hJ] at hq;cases hq),rfl⟩;obtain⟨q,hq⟩:∃ q,O5 (deep+1) z x=some q:=Option.isSome_iff_exists.1 (by simpa using c47);have hq2:=y46 q hq;subst hq2;have hrg:=a8P _ _ _ _ hz0 hq;rw[hq] at hJ;refine kQ0 [1,3,36,37,38] ?_;refine kA2 ?_;refine WL.nil (A4 (e.l.length - (k+1)) [(38,.int .i64 (k+1))] (h'':=.pt b4 (.cells (exE e).toArray 29 (0,0))::a5y bl z46::h) (by omega) ?_ Su Sb ⟨k+1,z46,⟨⟨by omega,by omega,by omega⟩,hJ⟩,rfl,rfl,rfl⟩);exact Su;replace c39:=dF c39;rw[List.drop_eq_nil_of_le (by omega)] at hJ;replace hJ:O5 deep left e=some z:=hJ;refine kQ0 [] ?_;refine kQ1 [6] ?_;refine wT (a5y bl z::h) ?_;exact⟨_,by rw[hJ];rfl,by (intro q hq;rw[hJ] at hq;cases hq;rfl),rfl⟩
theorem may_ct {m:View} (hg:Glob m) (e:Ex) (h:List Res) (hT:TOk m h e) (hW:Wf e):CT Tryz.prog 123 [exV e] h m (A3 h (.bool (M0 e))):=by
 refine CT.body Tryz.call123 Tryz.func123 rfl Tryz.ntmps123 Lb rfl ?_;refine j0 ?_;refine xX fun b1=>?_
 refine kQ1 [1] ?_;refine xW fun b3=>?_
 refine kQ1 [1,3] ?_;refine xW fun b4=>?_
 refine kQ0 [1,3,4] ?_;refine xG (PO.makeFunc Evs.nil (E2 Et Et)) ?_;refine kQ1 [1,4] ?_;refine kA2 ?_;refine pD (a5y b3 256) ?_;refine F3 (Ev.tmp rfl) (E2 (Ev.tmp rfl) Ek) (b6j hg b3 b4 e _ 1 256 Me (hT.mono Sb) hW (by omega) (by omega)) Lb ?_;rintro _ _ ⟨z8,rfl,y8,rfl⟩;refine kQ1 [2] ?_;refine wT h ?_;exact⟨rfl,rfl⟩
end
section
open Go.Eng Go.Xp Go
open Go.Ty (Tok B2 B4 R1)
theorem _root_.Go.Xp.TOk.fr {m:View} {h:List Res} {e:Ex} (q:TOk m h e) (fr:List Res):TOk m (fr++h) e:=q.mono (List.sublist_append_right fr h)
theorem X1 (s:B) (h:List Res) (m:View):CT Tryz.prog 255 [str s] h m (A3 h (R1 (C1 s))):=by
 refine CT.body Tryz.call255 Tryz.func255 rfl Tryz.ntmps255 Lb rfl ?_;refine j0 ?_;refine xW fun b2=>?_
 refine kQ0 [0,2] ?_;refine kQ3 [2] ?_;refine WC.ret (a7p (h':=h) (.inl rfl) rfl (I1 H2 rfl rfl rfl Me rfl) Vl Sb ?_);exact⟨rfl,rfl⟩
theorem U5 {m:View} (hg:Glob m) (s:B) (hs:s.length<=140737488355328) (h:List Res):CT Tryz.prog 243 [str s] h m (A3 h (R1 (C6 s))):=by
 refine CT.body Tryz.call243 Tryz.func243 rfl Tryz.ntmps243 Lb rfl ?_;refine j0 ?_;refine xW fun b2=>?_
 refine kQ0 [0,2] ?_;refine kA1 ?_;refine xf (E1 Et) (a5H _ _ _ hg (by assumption)) ?_;refine kQ0 [0,2,4] ?_;refine wc (fun c4=>?_) fun c4=>?_
 refine kQ3 [2] ?_;refine WC.ret (a7p (h':=h) (.inl rfl) rfl (I1 H2 rfl rfl rfl Me rfl) Vl Sb ?_);exact⟨by unfold C6;rw[c4];rfl,rfl⟩;refine kQ0 [0,2] ?_;refine kA1 ?_;refine xf (E1 Et) (X1 _ _ _) ?_;refine kQ1 [2] ?_;refine WC.ret (a7p (h':=h) (.inl rfl) rfl (I1 H2 rfl rfl rfl Me rfl) Vl Sb ?_);exact⟨by unfold C6;rw[c4];rfl,rfl⟩
theorem b6R (o:Int):(a1j o).1.length<=5:=by
 unfold a1j;split
 ·decide
 ·show(a4h.getD o.toNat []).length<=5
  have:∀ s ∈ a4h,s.length<=5:=by decide
  rw[List.getD_eq_getElem?_getD];cases h:a4h[o.toNat]? with
  | none=>decide
  | some s=>exact this s (List.mem_of_getElem? h)
theorem a2W {m:View} (hg:Glob m) (o:Int) (ho:0<=o/\o<=255) (h:List Res):CT Tryz.prog 257 [.int .u8 o] h m (A3 h (R1 (I9 o))):=by
 have hl:=b6R o;refine CT.body Tryz.call257 Tryz.func257 rfl Tryz.ntmps257 Lb rfl ?_;refine j0 ?_;refine xW fun b2=>?_
 refine kQ0 [0,2] ?_;refine kA1 ?_;refine xf (E1 Et) (a6x _ (by assumption) _ _) ?_;refine kQ5 [2,3] ?_;refine kA1 ?_;refine xf (E1 Et) (U5 hg (a1j o).1 (by omega) _) ?_;refine kQ1 [2] ?_;refine WC.ret (a7p (h':=h) (.inl rfl) rfl (I1 H2 rfl rfl rfl Me rfl) Vl Sb ?_);exact⟨rfl,rfl⟩
theorem b0u (k:Int):(K4 k).length<=4:=by
 unfold K4;repeat' split
 all_goals decide
abbrev WCT (m:View) (e:Ex):Prop:=∀ (h:List Res) (xs:List Tok) (a:Option Addr) (c:Nat),TOk m h e->Fine e->Wf e->xs.length+5 * a4f e<=1000000 ->
 CT Tryz.prog 250 [.slice a xs.length c,exV e] (.row (.slice a xs.length c) 120 4 xs.length (fl B2 xs)::h) m (fun v _ h'=>b4N B2 120 4 h (xs++A9 e) v h')
theorem a6w {m:View} (e:Ex) (hw:WCT m e) (h:List Res) (xs:List Tok) (a:Option Addr) (c:Nat) (hT:TOk m h e) (hF:Fine e) (hW:Wf e) (hl:xs.length+5 * a4f e+2<=1000000) :
 CT Tryz.prog 258 [.slice a xs.length c,exV e] (.row (.slice a xs.length c) 120 4 xs.length (fl B2 xs)::h) m (fun v _ h'=>b4N B2 120 4 h (xs++C5 e) v h'):=by
 have hwl:=a3B e hF;have hce:=W1 e;have hl1:(xs++[C1 [40]]).length=xs.length+1:=by simp
 have hl2:((xs++[C1 [40]])++A9 e).length=xs.length+1+(A9 e).length:=by simp;omega
 have hl3:(((xs++[C1 [40]])++A9 e)++[C1 [41]]).length=xs.length+2+(A9 e).length:=by simp;omega
 refine CT.body Tryz.call258 Tryz.func258 rfl Tryz.ntmps258 Lb rfl ?_;refine j0 ?_;refine xX fun b3=>?_
 refine kQ1 [0,3] ?_;refine kQ2 [0,3,6] ?_;refine kQ2 [0,3,6,7] ?_;refine wc (fun c7=>?_) fun c7=>?_
 have d6:=c7;refine kQ0 [0,3,7] ?_;refine wc (fun c7=>?_) fun c7=>?_
 have hp:C5 e=C1 [40]::(A9 e++[C1 [41]]):=by unfold C5 K9 par;rw[d6];rfl
 refine jE ?_;refine WC.take (r:=.row _ _ _ _ _) De ?_;refine F2 [1,2,3] (.op 0 (.op 4 (.op 1 (.op 2 (.op 3 .nil))))) [5,6,7,8,9] _ [_] D6 (fun _ _ _ _ _ h=>h) [] (by kernel_rfl) ?_;refine kA2 ?_;refine yf rfl (E1 Ek) (fun fr=>X1 _ _ _) ?_;refine sB rfl A6 fun b14=>?_
 refine S3 rfl rfl A6 (Ev.tmp rfl) (Ev.tmp rfl) Rr On hl1.symm (E9 (enc:=B2) _ (C1 [40])) (by omega) (by omega) (fun v'=>Up) Lb fun a15 c15=>?_
 refine SR.nil rfl rfl ?_;refine pD (.row _ _ _ _ _) ?_;refine xg (E2 Et Et) (hw _ (xs++[C1 [40]]) _ _ (hT.mono Sb) hF hW (by omega)) ?_;rintro _ _ ⟨a17,c17,k17,e17,rfl,rfl⟩;refine kR a17 fun p17 q17 r17=>?_
 subst e17;refine xf (E1 Ek) (X1 _ _ _) ?_;refine xY A6 Eb fun b19=>?_
 refine xD A6 (Ev.tmp rfl) (Ev.tmp rfl) (show _=(((xs++[C1 [40]])++A9 e)++[C1 [41]]).length by rw[hl3,hl2];omega) (E9 (enc:=B2) _ (C1 [41])) fun a20 c20=>?_
 refine kQ1 [4] ?_;refine wT (.row (.slice a20 (((xs++[C1 [40]])++A9 e)++[C1 [41]]).length c20) 120 4 (((xs++[C1 [40]])++A9 e)++[C1 [41]]).length (fl B2 (((xs++[C1 [40]])++A9 e)++[C1 [41]]))::h) ?_;rw[show xs++C5 e=((xs++[C1 [40]])++A9 e)++[C1 [41]] by rw[hp];simp];exact⟨_,_,_,rfl,rfl,rfl⟩
 cases d6.symm.trans c7;have d6:=c7;refine kQ2 [0,3,6,7] ?_;refine wc (fun c7=>?_) fun c7=>?_
 have d7:=c7;refine kQ0 [0,3,7] ?_;refine wc (fun c7=>?_) fun c7=>?_
 have hp:C5 e=C1 [40]::(A9 e++[C1 [41]]):=by unfold C5 K9 par;rw[d6,d7];rfl
 refine jE ?_;refine WC.take (r:=.row _ _ _ _ _) De ?_;refine F2 [1,2,3] (.op 0 (.op 4 (.op 1 (.op 2 (.op 3 .nil))))) [5,6,7,8,9] _ [_] D6 (fun _ _ _ _ _ h=>h) [] (by kernel_rfl) ?_;refine kA2 ?_;refine yf rfl (E1 Ek) (fun fr=>X1 _ _ _) ?_;refine sB rfl A6 fun b14=>?_
 refine S3 rfl rfl A6 (Ev.tmp rfl) (Ev.tmp rfl) Rr On hl1.symm (E9 (enc:=B2) _ (C1 [40])) (by omega) (by omega) (fun v'=>Up) Lb fun a15 c15=>?_
 refine SR.nil rfl rfl ?_;refine pD (.row _ _ _ _ _) ?_;refine xg (E2 Et Et) (hw _ (xs++[C1 [40]]) _ _ (hT.mono Sb) hF hW (by omega)) ?_;rintro _ _ ⟨a17,c17,k17,e17,rfl,rfl⟩;refine kR a17 fun p17 q17 r17=>?_
 subst e17;refine xf (E1 Ek) (X1 _ _ _) ?_;refine xY A6 Eb fun b19=>?_
 refine xD A6 (Ev.tmp rfl) (Ev.tmp rfl) (show _=(((xs++[C1 [40]])++A9 e)++[C1 [41]]).length by rw[hl3,hl2];omega) (E9 (enc:=B2) _ (C1 [41])) fun a20 c20=>?_
 refine kQ1 [4] ?_;refine wT (.row (.slice a20 (((xs++[C1 [40]])++A9 e)++[C1 [41]]).length c20) 120 4 (((xs++[C1 [40]])++A9 e)++[C1 [41]]).length (fl B2 (((xs++[C1 [40]])++A9 e)++[C1 [41]]))::h) ?_;rw[show xs++C5 e=((xs++[C1 [40]])++A9 e)++[C1 [41]] by rw[hp];simp];exact⟨_,_,_,rfl,rfl,rfl⟩
 cases d7.symm.trans c7;have d7:=c7;refine kQ2 [0,3,6,7] ?_;refine wc (fun c7=>?_) fun c7=>?_
 have d8:=c7;refine kQ0 [0,3,7] ?_;refine wc (fun c7=>?_) fun c7=>?_
 have hp:C5 e=C1 [40]::(A9 e++[C1 [41]]):=by unfold C5 K9 par;rw[d6,d7,d8];rfl
 refine jE ?_;refine WC.take (r:=.row _ _ _ _ _) De ?_;refine F2 [1,2,3] (.op 0 (.op 4 (.op 1 (.op 2 (.op 3 .nil))))) [5,6,7,8,9] _ [_] D6 (fun _ _ _ _ _ h=>h) [] (by kernel_rfl) ?_;refine kA2 ?_;refine yf rfl (E1 Ek) (fun fr=>X1 _ _ _) ?_;refine sB rfl A6 fun b14=>?_
 refine S3 rfl rfl A6 (Ev.tmp rfl) (Ev.tmp rfl) Rr On hl1.symm (E9 (enc:=B2) _ (C1 [40])) (by omega) (by omega) (fun v'=>Up) Lb fun a15 c15=>?_
 refine SR.nil rfl rfl ?_;refine pD (.row _ _ _ _ _) ?_;refine xg (E2 Et Et) (hw _ (xs++[C1 [40]]) _ _ (hT.mono Sb) hF hW (by omega)) ?_;rintro _ _ ⟨a17,c17,k17,e17,rfl,rfl⟩;refine kR a17 fun p17 q17 r17=>?_
 subst e17;refine xf (E1 Ek) (X1 _ _ _) ?_;refine xY A6 Eb fun b19=>?_
 refine xD A6 (Ev.tmp rfl) (Ev.tmp rfl) (show _=(((xs++[C1 [40]])++A9 e)++[C1 [41]]).length by rw[hl3,hl2];omega) (E9 (enc:=B2) _ (C1 [41])) fun a20 c20=>?_
 refine kQ1 [4] ?_;refine wT (.row (.slice a20 (((xs++[C1 [40]])++A9 e)++[C1 [41]]).length c20) 120 4 (((xs++[C1 [40]])++A9 e)++[C1 [41]]).length (fl B2 (((xs++[C1 [40]])++A9 e)++[C1 [41]]))::h) ?_;rw[show xs++C5 e=((xs++[C1 [40]])++A9 e)++[C1 [41]] by rw[hp];simp];exact⟨_,_,_,rfl,rfl,rfl⟩
 cases d8.symm.trans c7;have d8:=c7;refine kQ2 [0,3,7] ?_;refine wc (fun c7=>?_) fun c7=>?_
 have hp:C5 e=C1 [40]::(A9 e++[C1 [41]]):=by unfold C5 K9 par;rw[d6,d7,d8,c7];rfl
 refine jE ?_;refine WC.take (r:=.row _ _ _ _ _) De ?_;refine F2 [1,2,3] (.op 0 (.op 4 (.op 1 (.op 2 (.op 3 .nil))))) [5,6,7,8,9] _ [_] D6 (fun _ _ _ _ _ h=>h) [] (by kernel_rfl) ?_;refine kA2 ?_;refine yf rfl (E1 Ek) (fun fr=>X1 _ _ _) ?_;refine sB rfl A6 fun b14=>?_
 refine S3 rfl rfl A6 (Ev.tmp rfl) (Ev.tmp rfl) Rr On hl1.symm (E9 (enc:=B2) _ (C1 [40])) (by omega) (by omega) (fun v'=>Up) Lb fun a15 c15=>?_
 refine SR.nil rfl rfl ?_;refine pD (.row _ _ _ _ _) ?_;refine xg (E2 Et Et) (hw _ (xs++[C1 [40]]) _ _ (hT.mono Sb) hF hW (by omega)) ?_;rintro _ _ ⟨a17,c17,k17,e17,rfl,rfl⟩;refine kR a17 fun p17 q17 r17=>?_
 subst e17;refine xf (E1 Ek) (X1 _ _ _) ?_;refine xY A6 Eb fun b19=>?_
 refine xD A6 (Ev.tmp rfl) (Ev.tmp rfl) (show _=(((xs++[C1 [40]])++A9 e)++[C1 [41]]).length by rw[hl3,hl2];omega) (E9 (enc:=B2) _ (C1 [41])) fun a20 c20=>?_
 refine kQ1 [4] ?_;refine wT (.row (.slice a20 (((xs++[C1 [40]])++A9 e)++[C1 [41]]).length c20) 120 4 (((xs++[C1 [40]])++A9 e)++[C1 [41]]).length (fl B2 (((xs++[C1 [40]])++A9 e)++[C1 [41]]))::h) ?_;rw[show xs++C5 e=((xs++[C1 [40]])++A9 e)++[C1 [41]] by rw[hp];simp];exact⟨_,_,_,rfl,rfl,rfl⟩
 have hp:C5 e=A9 e:=by unfold C5 K9 par;rw[d6,d7,d8,c7];rfl
 refine kQ0 [0,3] ?_;refine kA2 ?_;refine pD (.row _ _ _ _ _) ?_;refine xg (E2 Et Et) (hw _ xs _ _ (hT.mono Sb) hF hW (by omega)) ?_;rintro _ _ ⟨a23,c23,k23,e23,rfl,rfl⟩;refine kR a23 fun p23 q23 r23=>?_
 refine kQ1 [4] ?_;refine wT (.row (.slice a23 k23 c23) 120 4 k23 (fl B2 (xs++A9 e))::h) ?_;rw[hp];exact⟨_,_,_,e23,rfl,rfl⟩
theorem b7V {m:View} (hg:Glob m) (e:Ex):WCT m e:=by
 refine Ex.ind (p:=fun e=>WCT m e) (fun e ih h xs a c hT hF hW hl=>?_) e;obtain⟨⟨hk,ho,ht⟩,hn,hs⟩:=hW.spec;have hce:=W1 e;have hr:=hT.rd;have hkind:=a0R hF;have we:=D9 e;have hl1:∀ t:Tok,xs.length+1=(xs++[t]).length:=by simp
 have hl2:∀ t u:Tok,xs.length+2=(xs++[t,u]).length:=by simp
 have hlp:=b0u e.t;refine CT.body Tryz.call250 Tryz.func250 rfl Tryz.ntmps250 Lb rfl ?_;refine j0 ?_;refine xX fun b3=>?_
 refine kQ1 [0,3] ?_;refine kA3 ?_;refine xW fun b5=>?_
 refine kQ1 [0,3,5] ?_;refine kQ2 [0,3,5,10] ?_;refine kQ2 [0,3,5,10,11] ?_;refine wc (fun c11=>?_) fun c11=>?_
 replace c11:=F9 c11;have we1:A9 e=[a6j e.n]:=by rw[we];simp[wr,c11]
 refine kA4 ?_;refine xY A6 Eb fun b17=>?_
 have hq:=hl1 (a6j e.n);refine xD A6 (Ev.tmp rfl) (Ev.tmp rfl) hq (E9 (enc:=B2) _ (a6j e.n)) fun a18 c18=>?_
 refine kQ1 [4] ?_;refine wT (.row (.slice a18 (xs++[a6j e.n]).length c18) 120 4 (xs++[a6j e.n]).length (fl B2 (xs++[a6j e.n]))::h) ?_;rw[we1];exact⟨_,_,_,rfl,rfl,rfl⟩
 replace c11:=F7 c11;refine kQ2 [0,3,5,10,19] ?_;refine wc (fun c19=>?_) fun c19=>?_
 replace c19:=F9 c19;have we1:A9 e=[a0V e.n]:=by rw[we];simp[wr,c19]
 refine kA4 ?_;refine xY A6 Eb fun b25=>?_
 have hq:=hl1 (a0V e.n);refine xD A6 (Ev.tmp rfl) (Ev.tmp rfl) hq (E9 (enc:=B2) _ (a0V e.n)) fun a26 c26=>?_
 refine kQ1 [4] ?_;refine wT (.row (.slice a26 (xs++[a0V e.n]).length c26) 120 4 (xs++[a0V e.n]).length (fl B2 (xs++[a0V e.n]))::h) ?_;rw[we1];exact⟨_,_,_,rfl,rfl,rfl⟩
 replace c19:=F7 c19;refine kQ2 [0,3,5,10,27] ?_;refine wc (fun c27=>?_) fun c27=>?_
 replace c27:=F9 c27;refine kQ3 [0,31] ?_;refine wc (fun c31=>?_) fun c31=>?_
 replace c31:=F9 c31;have we1:A9 e=[C6 [70,65,76,83,69]]:=by rw[we];simp[wr,c27,c31]
 refine kA1 ?_;refine xf (E1 Ek) (U5 hg _ (by decide) _) ?_;refine xY A6 Eb fun b34=>?_
 have hq:=hl1 (C6 [70,65,76,83,69]);refine xD A6 (Ev.tmp rfl) (Ev.tmp rfl) hq (E9 (enc:=B2) _ (C6 [70,65,76,83,69])) fun a35 c35=>?_
 refine kQ1 [4] ?_;refine wT (.row (.slice a35 (xs++[C6 [70,65,76,83,69]]).length c35) 120 4 (xs++[C6 [70,65,76,83,69]]).length (fl B2 (xs++[C6 [70,65,76,83,69]]))::h) ?_;rw[we1];exact⟨_,_,_,rfl,rfl,rfl⟩
 replace c31:=F7 c31;have we1:A9 e=[C6 [84,82,85,69]]:=by rw[we];simp[wr,c27,c31]
 refine kQ0 [0] ?_;refine kA1 ?_;refine xf (E1 Ek) (U5 hg _ (by decide) _) ?_;refine xY A6 Eb fun b38=>?_
 have hq:=hl1 (C6 [84,82,85,69]);refine xD A6 (Ev.tmp rfl) (Ev.tmp rfl) hq (E9 (enc:=B2) _ (C6 [84,82,85,69])) fun a39 c39=>?_
 refine kQ1 [4] ?_;refine wT (.row (.slice a39 (xs++[C6 [84,82,85,69]]).length c39) 120 4 (xs++[C6 [84,82,85,69]]).length (fl B2 (xs++[C6 [84,82,85,69]]))::h) ?_;rw[we1];exact⟨_,_,_,rfl,rfl,rfl⟩
 replace c27:=F7 c27;refine kQ2 [0,3,5,10,40] ?_;refine wc (fun c40=>?_) fun c40=>?_
 replace c40:=F9 c40;have we1:A9 e=[D5 e.s]:=by rw[we];simp[wr,c40]
 refine kA2 ?_;refine xY A6 Eb fun b44=>?_
 have hq:=hl1 (D5 e.s);refine xD A6 (Ev.tmp rfl) (Ev.tmp rfl) hq (E9 (enc:=B2) _ (D5 e.s)) fun a45 c45=>?_
 refine kQ1 [4] ?_;refine wT (.row (.slice a45 (xs++[D5 e.s]).length c45) 120 4 (xs++[D5 e.s]).length (fl B2 (xs++[D5 e.s]))::h) ?_;rw[we1];exact⟨_,_,_,rfl,rfl,rfl⟩
 replace c40:=F7 c40;refine kQ2 [0,3,5,10,46] ?_;refine wc (fun c46=>?_) fun c46=>?_
 replace c46:=F9 c46;have we1:A9 e=[C6 [83,73,90,69],D5 e.s]:=by rw[we];simp[wr,c46]
 refine jE ?_;refine WC.take (r:=.row _ _ _ _ _) De ?_;refine F2 [1] (.op 0 (.op 2 (.op 1 .nil))) [3,4,5] _ [_] D6 (fun _ _ _ _ _ h=>h) [0] (by kernel_rfl) ?_;refine kA2 ?_;refine yf rfl (E1 Ek) (fun fr=>U5 hg _ (by decide) _) ?_;refine SR.nil rfl rfl ?_;refine xY A6 Eb fun b51=>?_
 have hq:=hl2 (C6 [83,73,90,69]) (D5 e.s);refine xD A6 (Ev.tmp rfl) (Ev.tmp rfl) hq (a2U (enc:=B2) xs [C6 [83,73,90,69],D5 e.s]).symm fun a52 c52=>?_
 refine kQ1 [4] ?_;refine wT (.row (.slice a52 (xs++[C6 [83,73,90,69],D5 e.s]).length c52) 120 4 (xs++[C6 [83,73,90,69],D5 e.s]).length (fl B2 (xs++[C6 [83,73,90,69],D5 e.s]))::h) ?_;rw[we1];exact⟨_,_,_,rfl,rfl,rfl⟩
 replace c46:=F7 c46;refine kQ2 [0,3,5,10,53] ?_;refine wc (fun c53=>?_) fun c53=>?_
 replace c53:=F9 c53;obtain⟨x,hx⟩:=Q2 hF (.inl c53);have hx0:e.l[0]?=some x:=by rw[hx];rfl
 have hxl:e.l.length=1:=by rw[hx];rfl
 have hxm:x ∈ e.l:=by rw[hx];exact List.Mem.head _
 have hcx:a2N e.l=a4f x:=by rw[hx];simp[a2N]
 have we1:xs++A9 e=((xs++[D5 e.s,C1 [91]])++A9 x)++[C1 [93]]:=by rw[we,hx];simp[wr,c53,N8]
 have hwx:=a3B x (hF.part hxm);have hl3:((xs++[D5 e.s,C1 [91]])++A9 x).length=xs.length+2+(A9 x).length:=by simp;omega
 have hl4:(((xs++[D5 e.s,C1 [91]])++A9 x)++[C1 [93]]).length=xs.length+3+(A9 x).length:=by simp;omega
 have hl5:=hl2 (D5 e.s) (C1 [91]);refine jE ?_;refine WC.take (r:=.row _ _ _ _ _) De ?_;refine F2 [2,3,4] (.op 0 (.op 1 (.op 5 (.op 6 (.op 7 (.op 8 (.op 2 (.op 3 (.op 4 .nil))))))))) [9,10,11,12,13] _ [_] D6 (fun _ _ _ _ _ h=>h) [] (by kernel_rfl) ?_;refine kA4 ?_;refine yG rfl (G1 Y9.und Y9.size Y9.posz (Ev.tmp rfl) Ek Rr rfl (q:=0) (by omega)) ?_;refine kA1 ?_;refine yf rfl (E1 Ek) (fun fr=>X1 _ _ _) ?_;refine sB rfl A6 fun b58=>?_
 refine S3 rfl rfl A6 (Ev.tmp rfl) (Ev.tmp rfl) Rr On hl5 (a2U (enc:=B2) xs [D5 e.s,C1 [91]]).symm (by omega) (by omega) (fun v'=>Up) Lb fun a59 c59=>?_
 refine SR.nil rfl rfl ?_;refine pD (.row _ _ _ _ _) ?_;refine xg (E2 Et Et) (ih x hxm _ (xs++[D5 e.s,C1 [91]]) _ _ ((hT.part hxm).mono Sb) (hF.part hxm) (hW.part hxm) (by omega)) ?_;rintro _ _ ⟨a64,c64,k64,e64,rfl,rfl⟩;refine kR a64 fun p64 q64 r64=>?_
 subst e64;refine xf (E1 Ek) (X1 _ _ _) ?_;refine xY A6 Eb fun b66=>?_
 refine xD A6 (Ev.tmp rfl) (Ev.tmp rfl) (show _=(((xs++[D5 e.s,C1 [91]])++A9 x)++[C1 [93]]).length by rw[hl4,hl3];omega) (E9 (enc:=B2) _ (C1 [93])) fun a67 c67=>?_
 refine kQ1 [4] ?_;refine wT (.row (.slice a67 (((xs++[D5 e.s,C1 [91]])++A9 x)++[C1 [93]]).length c67) 120 4 (((xs++[D5 e.s,C1 [91]])++A9 x)++[C1 [93]]).length (fl B2 (((xs++[D5 e.s,C1 [91]])++A9 x)++[C1 [93]]))::h) ?_;rw[we1];exact⟨_,_,_,rfl,rfl,rfl⟩
 replace c53:=F7 c53;refine kQ2 [0,3,10,68] ?_;refine wc (fun c68=>?_) fun c68=>?_
 replace c68:=F9 c68;obtain⟨x,hx⟩:=Q2 hF (.inr (.inl c68));have hx0:e.l[0]?=some x:=by rw[hx];rfl
 have hxl:e.l.length=1:=by rw[hx];rfl
 have hxm:x ∈ e.l:=by rw[hx];exact List.Mem.head _
 have hcx:a2N e.l=a4f x:=by rw[hx];simp[a2N]
 have we1:xs++A9 e=(xs++[I9 e.o])++C5 x:=by rw[we,hx];simp[wr,c68,N8,C5]
 have hl3:=hl1 (I9 e.o);refine jE ?_;refine WC.take (r:=.row _ _ _ _ _) De ?_;refine F2 [3,4,5] (.op 0 (.op 1 (.op 2 (.op 6 (.op 7 (.op 8 (.op 9 (.op 3 (.op 4 (.op 5 .nil)))))))))) [10,11] _ [_] D6 (fun _ _ _ _ _ h=>h) [] (by kernel_rfl) ?_;refine kA5 ?_;refine yG rfl (G1 Y9.und Y9.size Y9.posz (Ev.tmp rfl) Ek Rr rfl (q:=0) (by omega)) ?_;refine kA1 ?_;refine yf rfl (E1 Et) (fun fr=>a2W hg _ (by assumption) _) ?_;refine sB rfl A6 fun b74=>?_
 refine S3 rfl rfl A6 (Ev.tmp rfl) (Ev.tmp rfl) Rr On hl3 (E9 (enc:=B2) _ (I9 e.o)) (by omega) (by omega) (fun v'=>Up) Lb fun a75 c75=>?_
 refine SR.nil rfl rfl ?_;refine pD (.row _ _ _ _ _) ?_;refine xg (E2 Et Et) (a6w x (ih x hxm) _ (xs++[I9 e.o]) _ _ ((hT.part hxm).mono Sb) (hF.part hxm) (hW.part hxm) (by omega)) ?_;rintro _ _ ⟨a80,c80,k80,e80,rfl,rfl⟩;refine kR a80 fun p80 q80 r80=>?_
 subst e80;refine kQ1 [4] ?_;refine wT (.row (.slice a80 ((xs++[I9 e.o])++C5 x).length c80) 120 4 ((xs++[I9 e.o])++C5 x).length (fl B2 ((xs++[I9 e.o])++C5 x))::h) ?_;rw[we1];exact⟨_,_,_,rfl,rfl,rfl⟩
 replace c68:=F7 c68;refine kQ2 [0,3,81] ?_;refine wc (fun c81=>?_) fun c81=>?_
 replace c81:=F9 c81;obtain⟨x,hx⟩:=Q2 hF (.inr (.inr c81));have hx0:e.l[0]?=some x:=by rw[hx];rfl
 have hxl:e.l.length=1:=by rw[hx];rfl
 have hxm:x ∈ e.l:=by rw[hx];exact List.Mem.head _
 have hcx:a2N e.l=a4f x:=by rw[hx];simp[a2N]
 have we1:xs++A9 e=(xs++[C6 (K4 e.t)])++C5 x:=by rw[we,hx];simp[wr,c81,N8,C5]
 have hl3:=hl1 (C6 (K4 e.t));refine jE ?_;refine WC.take (r:=.row _ _ _ _ _) De ?_;refine F2 [3,4,5,6] (.op 0 (.op 1 (.op 2 (.op 7 (.op 8 (.op 9 (.op 10 (.op 3 (.op 4 (.op 5 (.op 6 .nil))))))))))) [11,12] _ [_] D6 (fun _ _ _ _ _ h=>h) [] (by kernel_rfl) ?_;refine kA5 ?_;refine yG rfl (G1 Y9.und Y9.size Y9.posz (Ev.tmp rfl) Ek Rr rfl (q:=0) (by omega)) ?_;refine kA1 ?_;refine yf rfl (E1 Et) (fun fr=>a9C _ _ _) ?_;refine yf rfl (E1 Et) (fun fr=>U5 hg (K4 e.t) (by omega) _) ?_;refine sB rfl A6 fun b88=>?_
 refine S3 rfl rfl A6 (Ev.tmp rfl) (Ev.tmp rfl) Rr On hl3 (E9 (enc:=B2) _ (C6 (K4 e.t))) (by omega) (by omega) (fun v'=>Up) Lb fun a89 c89=>?_
 refine SR.nil rfl rfl ?_;refine pD (.row _ _ _ _ _) ?_;refine xg (E2 Et Et) (a6w x (ih x hxm) _ (xs++[C6 (K4 e.t)]) _ _ ((hT.part hxm).mono Sb) (hF.part hxm) (hW.part hxm) (by omega)) ?_;rintro _ _ ⟨a94,c94,k94,e94,rfl,rfl⟩;refine kR a94 fun p94 q94 r94=>?_
 subst e94;refine kQ1 [4] ?_;refine wT (.row (.slice a94 ((xs++[C6 (K4 e.t)])++C5 x).length c94) 120 4 ((xs++[C6 (K4 e.t)])++C5 x).length (fl B2 ((xs++[C6 (K4 e.t)])++C5 x))::h) ?_;rw[we1];exact⟨_,_,_,rfl,rfl,rfl⟩
 replace c81:=F7 c81;have hk7:e.k=7:=by
  rcases hkind with h | h | h | h | h | h | h | h | h <;> first | exact h | (exfalso;simp_all;done)
 obtain⟨x,y,hx⟩:=a3U hF hk7;have hx0:e.l[0]?=some x:=by rw[hx];rfl
 have hy0:e.l[1]?=some y:=by rw[hx];rfl
 have hxl:e.l.length=2:=by rw[hx];rfl
 have hxm:x ∈ e.l:=by rw[hx];exact List.Mem.head _
 have hym:y ∈ e.l:=by rw[hx];exact List.Mem.tail _ (List.Mem.head _)
 have hcx:a2N e.l=a4f x+a4f y:=by rw[hx];simp[a2N]
 have we1:xs++A9 e=((xs++C5 x)++[I9 e.o])++C5 y:=by rw[we,hx];simp[wr,hk7,N8,C5]
 have hwx:=a3B x (hF.part hxm);have hox:=a2c (par x.k,A9 x);have hl3:(xs++C5 x).length+1=((xs++C5 x)++[I9 e.o]).length:=(@List.length_append _ (xs++C5 x) [I9 e.o]).symm;have hl4:(xs++C5 x).length<=xs.length+5 * a4f x:=by
  rw[List.length_append];have:(C5 x).length<=(A9 x).length+2:=hox;have:=W1 x;omega
 have hcy:=W1 y;have hcx2:=W1 x;refine WC.skip (kp [0,3] ?_);refine jE ?_;refine WC.take (r:=.row _ _ _ _ _) De ?_;refine F2 [5,8,9,10] (.op 0 (.op 1 (.op 2 (.op 3 (.op 4 (.op 6 (.op 7 (.op 11 (.op 12 (.op 13 (.op 14 (.op 5 (.op 8 (.op 9 (.op 10 .nil))))))))))))))) [15,16] _ [_] D6 (fun _ _ _ _ _ h=>h) [] (by kernel_rfl) ?_;refine kA3 ?_;refine yG rfl (G1 Y9.und Y9.size Y9.posz (Ev.tmp rfl) Ek Rr rfl (q:=0) (by omega)) ?_;refine kA5 ?_;refine yG rfl (G1 Y9.und Y9.size Y9.posz (Ev.tmp rfl) Ek Rr rfl (q:=1) (by omega)) ?_;refine kA1 ?_;refine b6h rfl rfl Ef (E2 Et Et) De (fun fr=>a6w x (ih x hxm) _ xs _ _ (TOk.fr ((hT.part hxm).mono Sb) fr) (hF.part hxm) (hW.part hxm) (by omega)) Lb fun a100 c100=>?_
 refine yf rfl (E1 Et) (fun fr=>a2W hg _ (by assumption) _) ?_;refine sB rfl A6 fun b104=>?_
 refine S3 rfl rfl A6 (Ev.tmp rfl) (Ev.tmp rfl) Rr On hl3 (E9 (enc:=B2) _ (I9 e.o)) (by omega) (by omega) (fun v'=>Up) Lb fun a105 c105=>?_
 refine SR.nil rfl rfl ?_;refine pD (.row _ _ _ _ _) ?_;refine xg (E2 Et Et) (a6w y (ih y hym) _ ((xs++C5 x)++[I9 e.o]) _ _ ((hT.part hym).mono Sb) (hF.part hym) (hW.part hym) (by omega)) ?_;rintro _ _ ⟨a110,c110,k110,e110,rfl,rfl⟩;refine kR a110 fun p110 q110 r110=>?_
 subst e110;refine kQ1 [4] ?_;refine wT (.row (.slice a110 (((xs++C5 x)++[I9 e.o])++C5 y).length c110) 120 4 (((xs++C5 x)++[I9 e.o])++C5 y).length (fl B2 (((xs++C5 x)++[I9 e.o])++C5 y))::h) ?_;rw[we1];exact⟨_,_,_,rfl,rfl,rfl⟩
theorem tokens_ct {m:View} (hg:Glob m) (e:Ex) (h:List Res) (hT:TOk m h e) (hW:Wf e):CT Tryz.prog 223 [exV e] h m
 (fun v _ h'=>(M0 e=true/\∃ a c,v=.tuple #[.slice a (A9 e).length c,.int .i64 0]/\h'=.row (.slice a (A9 e).length c) 120 4 (A9 e).length (fl B2 (A9 e))::h)\/(M0 e=false/\v=.tuple #[.slice none 0 0,.int .i64 2]/\h'=h)):=by
 refine CT.body Tryz.call223 Tryz.func223 rfl Tryz.ntmps223 Lb rfl ?_;refine j0 ?_;refine xX fun b1=>?_
 refine kQ2 [1] ?_;refine kA1 ?_;refine xf (E1 Et) (may_ct hg e _ (hT.mono Sb) hW) ?_;refine kQ1 [1,6] ?_;refine wc (fun c6=>?_) fun c6=>?_
 have d6:M0 e=false:=by simpa using c6
 refine kQ2 [2,3] ?_;refine w2 h ?_;exact .inr ⟨d6,rfl,rfl⟩;have d6:M0 e=true:=by simpa using c6
 obtain⟨hF,hc⟩:=a5g d6;refine kQ0 [1] ?_;refine kA1 ?_;refine WL.addNil 120 4 ?_;refine xg (E2 Ek Et) (b7V hg e _ [] none 0 (hT.mono Sb) hF hW (by simp;omega)) ?_;rintro _ _ ⟨a8,c8,k8,e8,rfl,rfl⟩;refine kR a8 fun p8 q8 r8=>?_
 subst e8;refine kQ2 [2,3] ?_;refine w2 (.row (.slice a8 (A9 e).length c8) 120 4 (A9 e).length (fl B2 (A9 e))::h) ?_;exact .inl ⟨d6,_,_,rfl,rfl⟩
end
section
open Go.Eng Go.Lx Go.Ty
theorem b9Z {s:B} (h1:((s.length:Int)==1)=false) (h2:((s.length:Int)==2)=false):sym s=false:=by
 match s with
 | []=>rfl
 | [a]=>simp at h1
 | [a,b]=>simp at h2
 | a::b::c::s=>rfl
theorem b9t {s:B} (h:((s.length:Int)==1)=true):∃ a,s=[a]:=by
 match s with
 | []=>simp at h
 | [a]=>exact⟨a,rfl⟩
 | a::b::s=>simp at h;omega
theorem b9K {s:B} (h:((s.length:Int)==2)=true):∃ a b,s=[a,b]:=by
 match s with
 | []=>simp at h
 | [a]=>simp at h
 | [a,b]=>exact⟨a,b,rfl⟩
 | a::b::c::s=>simp at h;omega
theorem b1I (s:B) (h:List Res) (m:View) (hg:Glob m):CT Tryz.prog 221 [str s] h m (A3 h (.bool (sym s))):=by
 refine CT.body Tryz.call221 Tryz.func221 rfl Tryz.ntmps221 Lb rfl ?_;refine kQ1 [0] ?_;refine kA1 ?_;refine xG (L2 uu9 Et) ?_;refine kQ0 [0,4] ?_;refine kQ2 [0,4,5] ?_;refine wc (fun c5=>?_) fun c5=>?_
 obtain⟨a,rfl⟩:=b9t c5;refine kA1 ?_;refine xf (E2 Ek Et) (CT.argsE rfl (a0t hg b0E [a] (by decide) _)) ?_;refine kQ1 [2] ?_;refine wT h ?_;exact⟨rfl,rfl⟩;refine kQ2 [0,9] ?_;refine wc (fun c9=>?_) fun c9=>?_
 obtain⟨a,b,rfl⟩:=b9K c9;refine kA1 ?_;refine xG (I7 uu9 Et Ek (q:=0) rfl (c:=a) rfl) ?_;refine kA3 ?_;refine zG (fun hc=>I7 uu9 (Eg hc) Ek (q:=1) rfl (c:=b) rfl) ?_;refine kA4 ?_;refine F6 (GU.t rfl rfl) (fun hc=>G3 Ek (Eg hc) (by simp)) Lb ?_;refine F6 (GU.t rfl rfl) (fun hc=>G3 (Eg hc) Ek (by simp)) Lb ?_;refine A7 (GU.t rfl rfl) (fun hc=>⟨Ef,(E2 Ek (Eg hc)),CT.argsE rfl (a0t hg a2R ([32]++[a,b]++[32]) (by decide) _)⟩) Lb ?_;refine kQ2 [2] ?_;refine wT h ?_;exact⟨rfl,rfl⟩;refine kQ0 [] ?_;refine kQ1 [2] ?_;refine wT h ?_;exact⟨by rw[b9Z c5 c9],rfl⟩
theorem b0D (t:Tok) (h:List Res) (m:View) (hg:Glob m) (hs:t.text.length<=140737488355328):CT Tryz.prog 225 [R1 t] h m (A3 h (.bool (J4 t))):=by
 have hs':t.text.length<=9223372036854775807:=by omega
 refine CT.body Tryz.call225 Tryz.func225 rfl Tryz.ntmps225 Lb rfl ?_;refine j0 ?_;refine xX fun b1=>?_
 refine kQ1 [1] ?_;refine kQ8 [1,10] ?_;refine wc (fun c10=>?_) fun c10=>?_
 have d:J4 t=false:=by unfold J4;rw[c10];rfl
 refine kQ1 [2] ?_;refine wT h ?_;rw[d];exact⟨rfl,rfl⟩
 refine kQ0 [1] ?_;refine kQ2 [1,12] ?_;refine kQ2 [1,12,13] ?_;refine wc (fun c13=>?_) fun c13=>?_
 refine kA6 ?_;refine A7 (GU.t rfl rfl) (fun hc=>⟨Ef,(E1 (Eg hc)),Z6 _ _ _ hg (by assumption)⟩) Lb ?_;refine kQ2 [2] ?_;refine wT h ?_;exact⟨by unfold J4;rw[c10,c13];rfl,rfl⟩;refine kQ2 [1,12,23] ?_;refine wc (fun c23=>?_) fun c23=>?_
 refine kA6 ?_;refine A7 (GU.t rfl rfl) (fun hc=>⟨Ef,(E1 (Eg hc)),a5H _ _ _ hg (by assumption)⟩) Lb ?_;refine kQ2 [2] ?_;refine wT h ?_;exact⟨by unfold J4;rw[c10,c13,c23];rfl,rfl⟩;refine kQ2 [1,12,33] ?_;refine wc (fun c33=>?_) fun c33=>?_
 refine kA6 ?_;refine A7 (GU.t rfl rfl) (fun hc=>⟨Ef,(E1 (Eg hc)),b1I _ _ _ hg⟩) Lb ?_;refine kQ2 [2] ?_;refine wT h ?_;exact⟨by unfold J4;rw[c10,c13,c23,c33];rfl,rfl⟩;refine kQ2 [1,43] ?_;refine wc (fun c43=>?_) fun c43=>?_
 refine kA2 ?_;refine xG (M6 Et Ek) ?_;refine c0H [2] ?_;refine wT h ?_;exact⟨by unfold J4;rw[c10,c13,c23,c33,c43];rfl,rfl⟩;refine kQ0 [1] ?_;refine kA6 ?_;refine zG (fun hc=>M6 (Eg hc) Ek) ?_;refine kQ2 [2] ?_;refine wT h ?_;exact⟨by unfold J4;rw[c10,c13,c23,c33,c43];rfl,rfl⟩
abbrev rdr (b:Nat) (line:B) (p:Nat):Res:=.pt b (.cells [str line,Value.int .i64 p].toArray 171 (0,0))
theorem a0I (b:Nat) (line:B) (p:Nat) (h:List Res) (m:View) (hr:rdr b line p ∈ h) (hp:p<=line.length):CT Tryz.prog 218 [.pointer (some ⟨b,0,none⟩)] h m (A3 h (str (line.drop p))):=by
 refine CT.body Tryz.call218 Tryz.func218 rfl Tryz.ntmps218 Lb rfl ?_;refine kQ1 [0] ?_;refine dS [] (.op 0 (.op 1 (.op 2 (.op 3 (.op 4 (.op 5 (.op 6 (.op 7 .nil)))))))) [8,9] D6 ?_;refine kA3 ?_;refine yG rfl (D0 uu9 rfl Et hr rfl) ?_;refine kA3 ?_;refine yG rfl (D0 uu3 rfl Et hr rfl) ?_;refine SR.nil rfl rfl ?_;refine xG (a4w uu9 Et Et rfl (by omega)) ?_;refine kQ1 [2] ?_;refine wT h ?_;exact⟨rfl,rfl⟩
abbrev tkR (p:Tok × Nat):Value:=.tuple #[R1 p.1,.int .i64 p.2]
theorem b4V (b:Nat) (line:B) (p:Nat) (h:List Res) (m:View) (hg:Glob m) (hr:rdr b line p ∈ h) (hp:p<=line.length) (hs:line.length<=140737488355328):CT Tryz.prog 154 [.pointer (some ⟨b,0,none⟩)] h m (A3 h (tkR (a2A (line.drop p)))):=by
 have hl:(line.drop p).length<=140737488355328:=by rw[List.length_drop];omega
 have hl':(line.drop p).length<=9223372036854775807:=by omega
 have hrun:=a4g (line.drop p);have hlt:((line.drop p).take (run (line.drop p))).length<=140737488355328:=by rw[List.length_take];omega
 have hlt':((line.drop p).take (run (line.drop p))).length<=9223372036854775807:=by omega
 refine CT.body Tryz.call154 Tryz.func154 rfl Tryz.ntmps154 Lb rfl ?_;refine j0 ?_;refine xW fun b2=>?_
 refine kQ1 [0,2] ?_;refine kA1 ?_;refine xf (E1 Et) (a0I b line p _ _ (List.Mem.tail _ hr) hp) ?_;refine xf (E1 Et) (a5A _ _ _ (by assumption)) ?_;refine kQ1 [0,2,4] ?_;refine kA1 ?_;refine xf (E1 Et) (a0I b line p _ _ (List.Mem.tail _ hr) hp) ?_;refine kA1 ?_;refine xG (a4r uu9 Et Et rfl (by omega)) ?_;refine kQ1 [2,4,5] ?_;refine kA1 ?_;refine xf (E1 Et) (a5H _ _ _ hg (by assumption)) ?_;refine kQ1 [2,4,5,13] ?_;refine wc (fun c13=>?_) fun c13=>?_
 refine kQ5 [2,3] ?_;refine w2 h (h1:=cA H2) ?_;exact⟨by unfold a2A;rw[c13];rfl,rfl⟩;refine kQ3 [2,4,5,19] ?_;refine wc (fun c19=>?_) fun c19=>?_
 refine kQ3 [2,3] ?_;refine w2 h (h1:=cA H2) ?_;exact⟨by unfold a2A;rw[c13,c19];rfl,rfl⟩;refine kQ0 [2,4,5] ?_;refine kQ5 [2,3] ?_;refine w2 h (h1:=cA H2) ?_;exact⟨by unfold a2A;rw[c13,c19];rfl,rfl⟩
theorem b0j {b c:Nat} {s:B} {zs:List Value} {e:TypeId} {f:Nat × Nat} {h:List Res} {m:View} (h1:s.length<=c) (h2:c<=9223372036854775807):Rd m (.pt b (.cells (bv s++zs).toArray e f)::h) (some ⟨b,0,none⟩) s.length c 1 (bv s):=
 Rd.ofPtP (by rw[a9g];exact(Nat.mul_one _).symm) h1 h2 (List.Mem.head _)
theorem b5v (c:UInt8) (l:B) (v:Int):a8h (c::l) v=if !dig c.toNat then none else a8h l (10 * v+((c.toNat:Int) - 48)):=rfl
theorem p10 {v:Int} {k:Nat} (h:v < 10 ^ k) (hk:k<=10):v < 10000000000:=
 Int.lt_of_lt_of_le h (show(10:Int) ^ k<=10 ^ 10 by exact_mod_cast Nat.pow_le_pow_right (by decide) hk)
theorem c2S {c:UInt8} (h:dig c.toNat=true):IntKind.u8.wrap ((c.toNat:Int) - 48)=(c.toNat:Int) - 48/\0<=(c.toNat:Int) - 48/\(c.toNat:Int) - 48 < 10:=by
 unfold dig at h;simp at h;unfold IntKind.wrap;simp[IntKind.bits,IntKind.signed];omega
theorem c2d {v:Int} (h:0<=v/\v < 10):IntKind.i64.wrap v=v:=by
 unfold IntKind.wrap;simp[IntKind.bits,IntKind.signed];omega
theorem c0g (v:Int):IntKind.i64.wrap (IntKind.i32.wrap v)=IntKind.i32.wrap v:=by
 unfold IntKind.wrap;simp[IntKind.bits,IntKind.signed];omega
theorem c2L (b:Nat) (line:B) (p:Nat) (h:List Res) (m:View) (hr:rdr b line p ∈ h) (hp:p<=line.length) (hs:line.length<=140737488355328):CT Tryz.prog 156 [.pointer (some ⟨b,0,none⟩)] h m (A3 h (tkR (a8f (line.drop p)))):=by
 have hl:(line.drop p).length<=140737488355328:=by rw[List.length_drop];omega
 have hl':(line.drop p).length<=9223372036854775807:=by omega
 have hrun:=a4g (line.drop p);have hlen:((line.drop p).take (run (line.drop p))).length=run (line.drop p):=by rw[List.length_take];omega
 have hlt':((line.drop p).take (run (line.drop p))).length<=9223372036854775807:=by omega
 refine CT.body Tryz.call156 Tryz.func156 rfl Tryz.ntmps156 Lb rfl ?_;refine j0 ?_;refine xW fun b2=>?_
 refine kQ1 [0,2] ?_;refine kA1 ?_;refine xf (E1 Et) (a0I b line p _ _ (List.Mem.tail _ hr) hp) ?_;refine xf (E1 Et) (a5A _ _ _ (by assumption)) ?_;refine kQ1 [0,2,4] ?_;refine kQ2 [0,2,4,12] ?_;refine wc (fun c12=>?_) fun c12=>?_
 refine kQ3 [2,3] ?_;refine w2 h (h1:=cA H2) ?_;exact⟨by unfold a8f;rw[c12];rfl,rfl⟩;have h10:run (line.drop p)<=10:=by simp at c12;omega
 generalize hs0:(line.drop p).take (run (line.drop p))=s at *;refine kQ0 [0,2,4] ?_;refine kQ1 [0,2,4,5] ?_;refine kA1 ?_;refine xf (E1 Et) (a0I b line p _ _ (List.Mem.tail _ hr) hp) ?_;refine kA1 ?_;refine xG (a4r uu9 Et Et rfl (by omega)) ?_;refine WL.val (v':=str s) (congrArg str hs0) ?_;refine a5V uu9 b7P uu5 Et Lb (by assumption) fun b18 z18 f18 c18 e18 g18=>?_
 refine kQ2 [2,4,5,18,19,20] ?_;refine B0 [2,4,18,19] rfl (fun μ F' h'=>∃ k:Nat,∃ v:Int,((k<=s.length/\a8h s 0=a8h (s.drop k) v)/\0<=v/\v < 10 ^ k)/\s.length - k=μ/\F'=[(5,.int .i64 v),(20,.int .i64 k)]/\.pt b18 (.cells (bv s++z18).toArray 5 f18)::.pt b2 (.cells (B2 zeroK).toArray 120 (0,0))::h=h') (s.length - 0) [(5,.int .i64 0),(20,.int .i64 0)] (h0:=.pt b18 (.cells (bv s++z18).toArray 5 f18)::.pt b2 (.cells (B2 zeroK).toArray 120 (0,0))::h) ?_ Sb ⟨0,0,⟨⟨by omega,rfl⟩,by decide,by decide⟩,rfl,rfl,rfl⟩ ?_;exact Su;rintro _ _ _ ⟨k,v,⟨⟨hk,hJ⟩,hv0,hv1⟩,rfl,rfl,rfl⟩;refine B1 rfl ?_;refine kQ1 [2,4,5,18,19,20,21] ?_;refine wc (fun c21=>?_) fun c21=>?_
 replace c21:=dT c21;obtain⟨c,hc⟩:=A5 (l:=s) (k:=k) (by omega);have hv:=p10 hv1 (by omega);have hR:=b0j (b:=b18) (zs:=z18) (e:=5) (f:=f18) (h:=.pt b2 (.cells (B2 zeroK).toArray 120 (0,0))::h) (m:=m) e18 g18;have hd:s.drop k=c::s.drop (k+1):=by rw[List.drop_eq_getElem_cons (by omega),(List.getElem?_eq_some_iff.1 hc).2]
 rw[hd,b5v] at hJ;refine kQ0 [2,4,5,18,19,20] ?_;refine kA1 ?_;refine xG (b0b uu5 rfl Rr (Ev.tmp rfl) (by assumption)) ?_;refine kQ1 [2,4,5,7,18,19,20] ?_;refine kA1 ?_;refine xf (E1 Et) (a7B _ _ _) ?_;refine kQ1 [2,4,5,7,18,19,20,26] ?_;refine wc (fun c26=>?_) fun c26=>?_
 rw[c26] at hJ;refine kQ3 [2,3] ?_;refine w2 h (h1:=cA H2) ?_;exact⟨by unfold a8f;rw[c12,hs0];simp only[Bool.false_eq_true,if_false,hJ];rfl,rfl⟩;have d26:dig c.toNat=true:=by simpa using c26
 rw[c26] at hJ;obtain⟨w1,w2,w3⟩:=c2S d26;have hp1:10 * v+((c.toNat:Int) - 48) < 10 ^ (k+1):=by rw[Int.pow_succ];omega
 refine kQ0 [2,4,5,7,18,19,20] ?_;refine kA1 ?_;refine xG (a9Q Ek Et (by omega)) ?_;refine kA2 ?_;refine WL.val (v':=.int .u8 ((c.toNat:Int) - 48)) (congrArg (Value.int .u8) w1) ?_;refine xG (PO.conv uu5 uu2 Et) ?_;refine WL.val (v':=.int .i64 ((c.toNat:Int) - 48)) (congrArg (Value.int .i64) (c2d ⟨w2,w3⟩)) ?_;refine xG (M2 Et Et (by omega)) ?_;refine kQ1 [2,4,5,18,19,20] ?_;refine kA2 ?_;refine WL.nil (A4 (s.length - (k+1)) [(5,.int .i64 (10 * v+((c.toNat:Int) - 48))),(20,.int .i64 (k+1))] (h'':=.pt b18 (.cells (bv s++z18).toArray 5 f18)::.pt b2 (.cells (B2 zeroK).toArray 120 (0,0))::h) (by omega) ?_ Su Sb ⟨k+1,10 * v+((c.toNat:Int) - 48),⟨⟨by omega,by simpa using hJ⟩,by omega,hp1⟩,rfl,rfl,rfl⟩);exact Su;replace c21:=dF c21;have hv:=p10 hv1 (by omega);rw[List.drop_eq_nil_of_le (by omega)] at hJ;refine kQ0 [2,4,5] ?_;refine kA2 ?_;refine xG (PO.conv uu2 a2o Et) ?_
 refine xG (PO.conv a2o uu2 Et) ?_;refine WL.val (v':=.int .i64 (IntKind.i32.wrap v)) (congrArg (Value.int .i64) (c0g v)) ?_;refine kQ1 [2,4,5,39] ?_;refine wc (fun c39=>?_) fun c39=>?_
 refine kQ3 [2,3] ?_;refine w2 h (h1:=cA H2) ?_;exact⟨by unfold a8f;rw[c12,hs0];simp only[Bool.false_eq_true,if_false,hJ,a8h,c39,if_true];rfl,rfl⟩;refine kQ0 [2,4,5] ?_;refine kA1 ?_;refine xG (PO.conv uu2 a2o Et) ?_;refine kQ4 [2,3] ?_;refine w2 h (h1:=cA H2) ?_;exact⟨by unfold a8f;rw[c12,hs0];simp only[Bool.false_eq_true,if_false,hJ,a8h,c39];rfl,rfl⟩
theorem a7b (l:B) (c:UInt8) (h:List Res) (m:View):CT Tryz.prog 72 [str l,.int .u8 c.toNat] h m (A3 h (.int .i64 (Lib.indexByte l c))):=
 CT.ofCalls Tryz.call72 fun w _=>by
  have:=Tryz.strings_IndexByte ⟨l.toArray⟩ c.toNat w;simpa using this
theorem p16 {v:Int} {k:Nat} (h:v < 16 ^ k) (hk:k<=7):v < 268435456:=
 Int.lt_of_lt_of_le h (show(16:Int) ^ k<=16 ^ 7 by exact_mod_cast Nat.pow_le_pow_right (by decide) hk)
theorem b97 {v:Int} (h:0<=v/\v < 268435456):c0q .u32 v 4=16 * v:=by
 unfold c0q IntKind.wrap;simp[IntKind.bits,IntKind.signed];omega
theorem a7K {v:Int} (h:0<=v/\v < 4294967296):IntKind.u32.wrap v=v:=by
 unfold IntKind.wrap;simp[IntKind.bits,IntKind.signed];omega
theorem c0x {v d:Int} (hv:0<=v/\v < 268435456) (hd:0<=d/\d < 16):bor .u32 (16 * v) d=16 * v+d:=by
 obtain⟨a,rfl⟩:∃ a:Nat,v=a:=⟨v.toNat,by omega⟩;obtain⟨b,rfl⟩:∃ b:Nat,d=b:=⟨d.toNat,by omega⟩;have e:(BitVec.ofInt 32 (16 * (a:Int)) ||| BitVec.ofInt 32 (b:Int)).toNat=16 * a+b:=by
  rw[show(16 * (a:Int))=((16 * a:Nat):Int) by simp,BitVec.ofInt_natCast,BitVec.ofInt_natCast,BitVec.toNat_or,BitVec.toNat_ofNat,BitVec.toNat_ofNat,Nat.mod_eq_of_lt (by omega),Nat.mod_eq_of_lt (by omega)];have:=Nat.shiftLeft_add_eq_or_of_lt (b:=b) (i:=4) (by omega) a;rw[Nat.shiftLeft_eq] at this;rw[Nat.mul_comm 16 a];exact this.symm
 unfold bor;rw[show IntKind.u32.bits=32 from rfl,e,a7K (by omega)];simp
theorem b5t (c:UInt8) (l:B) (v:Int):b1e (c::l) v=if decide (a4n c < 0) then none else b1e l (16 * v+a4n c):=rfl
theorem a3R (c:UInt8):∀ l:B,Lib.indexByte l c<=(l.length:Int) - 1
 | []=>Int.le_refl (-1)
 | b::l=>by
  have ih:=a3R c l;unfold Lib.indexByte;rw[List.length_cons];split
  ·omega
  ·split <;> omega
theorem b9e (c:UInt8):a4n c < 16:=by
 have:=a3R c N4;have e:(N4.length:Int)=16:=rfl;unfold a4n;omega
theorem b3e (s:B) (h:List Res) (m:View) (hs:s.length<=8):CT Tryz.prog 219 [str s] h m (A3 h (.tuple #[.int .u32 (a04 s).1,.bool (a04 s).2])):=by
 have hs':s.length<=9223372036854775807:=by omega
 refine CT.body Tryz.call219 Tryz.func219 rfl Tryz.ntmps219 Lb rfl ?_;refine kQ2 [0,2] ?_;refine kA1 ?_;refine a5V uu9 b7P uu5 Et Lb (by assumption) fun b8 z8 f8 c8 e8 g8=>?_
 refine kQ2 [0,2,8,9,10] ?_;refine B0 [0,8,9] rfl (fun μ F' h'=>∃ k:Nat,∃ v:Int,((k<=s.length/\b1e s 0=b1e (s.drop k) v)/\0<=v/\v < 16 ^ k)/\s.length - k=μ/\F'=[(2,.int .u32 v),(10,.int .i64 k)]/\.pt b8 (.cells (bv s++z8).toArray 5 f8)::h=h') (s.length - 0) [(2,.int .u32 0),(10,.int .i64 0)] (h0:=.pt b8 (.cells (bv s++z8).toArray 5 f8)::h) ?_ Sb ⟨0,0,⟨⟨by omega,rfl⟩,by decide,by decide⟩,rfl,rfl,rfl⟩ ?_;exact Su;rintro _ _ _ ⟨k,v,⟨⟨hk,hJ⟩,hv0,hv1⟩,rfl,rfl,rfl⟩;refine B1 rfl ?_;refine kQ1 [0,2,8,9,10,11] ?_;refine wc (fun c11=>?_) fun c11=>?_
 replace c11:=dT c11;obtain⟨c,hc⟩:=A5 (l:=s) (k:=k) (by omega);have hv:=p16 hv1 (by omega);have hR:=b0j (b:=b8) (zs:=z8) (e:=5) (f:=f8) (h:=h) (m:=m) e8 g8;have hd:s.drop k=c::s.drop (k+1):=by rw[List.drop_eq_getElem_cons (by omega),(List.getElem?_eq_some_iff.1 hc).2]
 rw[hd,b5t] at hJ;refine kQ0 [0,2,8,9,10] ?_;refine kA1 ?_;refine xG (b0b uu5 rfl Rr (Ev.tmp rfl) (by assumption)) ?_;refine kQ1 [0,2,5,8,9,10] ?_;refine kA1 ?_;refine xf (E2 Ek Et) (CT.argsE rfl (a7b N4 c _ _)) ?_;refine WL.val (v':=.int .i64 (a4n c)) rfl ?_;refine kQ1 [0,2,6,8,9,10] ?_;refine kQ2 [0,2,6,8,9,10,17] ?_;refine wc (fun c17=>?_) fun c17=>?_
 rw[c17] at hJ;refine kQ2 [2,3] ?_;refine w2 h ?_;exact⟨by unfold a04;rw[hJ];rfl,rfl⟩;rw[c17] at hJ;have d17:¬ a4n c < 0:=dF c17;have dlt:=b9e c;have hp1:16 * v+a4n c < 16 ^ (k+1):=by rw[Int.pow_succ];omega
 refine kQ0 [0,2,6,8,9,10] ?_;refine kA1 ?_;refine xG (PO.shl Et Ek (by decide)) ?_;refine WL.val (v':=.int .u32 (16 * v)) (congrArg (Value.int .u32) (b97 ⟨hv0,hv⟩)) ?_;refine kA1 ?_;refine xG (PO.conv uu3 b0w Et) ?_;refine WL.val (v':=.int .u32 (a4n c)) (congrArg (Value.int .u32) (a7K (by omega))) ?_;refine kA1 ?_;refine WL.val (v':=.int .u32 (16 * v+a4n c)) (congrArg (Value.int .u32) (c0x ⟨hv0,hv⟩ (by omega))) ?_;refine kQ1 [0,2,8,9,10] ?_;refine kA2 ?_;refine WL.nil (A4 (s.length - (k+1)) [(2,.int .u32 (16 * v+a4n c)),(10,.int .i64 (k+1))] (h'':=.pt b8 (.cells (bv s++z8).toArray 5 f8)::h) (by omega) ?_ Su Sb ⟨k+1,16 * v+a4n c,⟨⟨by omega,by simpa using hJ⟩,by omega,hp1⟩,rfl,rfl,rfl⟩);exact Su;replace c11:=dF c11;rw[List.drop_eq_nil_of_le (by omega)] at hJ;refine kQ0 [0,2] ?_;refine kA2 ?_;refine xG (P2 Et Ek) ?_;refine kQ2 [2,3] ?_;refine w2 h ?_;exact⟨by unfold a04;rw[hJ];rfl,rfl⟩
theorem c2y (b:Nat) (line:B) (p:Nat) (h:List Res) (m:View) (hr:rdr b line p ∈ h) (hp:p < line.length) (hs:line.length<=140737488355328):CT Tryz.prog 157 [.pointer (some ⟨b,0,none⟩)] h m (A3 h (tkR (a9V (line.drop p)))):=by
 have hl0:(line.drop p).length=line.length - p:=List.length_drop;have hl:((line.drop p).drop 1).length<=140737488355328:=by rw[List.length_drop];omega
 have hl':((line.drop p).drop 1).length<=9223372036854775807:=by omega
 have hrun:=a4g ((line.drop p).drop 1);have hlen:((line.drop p).drop 1).length=line.length - p - 1:=by rw[List.length_drop,hl0]
 refine CT.body Tryz.call157 Tryz.func157 rfl Tryz.ntmps157 Lb rfl ?_;refine j0 ?_;refine xW fun b2=>?_
 refine kQ1 [0,2] ?_;refine kA1 ?_;refine xf (E1 Et) (a0I b line p _ _ (List.Mem.tail _ hr) (by omega)) ?_;refine xG (a4w uu9 Et Ek (l:=1) rfl (by omega)) ?_;refine xf (E1 Et) (a5A _ _ _ (by assumption)) ?_;refine kQ1 [0,2,4] ?_;refine kQ2 [0,2,4,12] ?_;refine wc (fun c12=>?_) fun c12=>?_
 refine kQ3 [2,3] ?_;refine w2 h (h1:=cA H2) ?_;exact⟨by unfold a9V;rw[c12];rfl,rfl⟩;have h8:run ((line.drop p).drop 1)<=8:=by have:=of_decide_eq_false c12;omega
 have h8':(((line.drop p).drop 1).take (run ((line.drop p).drop 1))).length<=8:=by rw[List.length_take];omega
 refine kQ0 [0,2,4] ?_;refine kA1 ?_;refine xf (E1 Et) (a0I b line p _ _ (List.Mem.tail _ hr) (by omega)) ?_;refine kA1 ?_;refine xG (M2 Ek Et (by omega)) ?_;refine WL.val (v':=.int .i64 ((1+run ((line.drop p).drop 1):Nat):Int)) (congrArg (Value.int .i64) (by omega)) ?_;refine xG (a0u uu9 Et Ek Et (l:=1) rfl rfl (by omega) (by omega)) ?_;refine WL.val (v':=str (((line.drop p).drop 1).take (run ((line.drop p).drop 1)))) (by rw[Nat.add_sub_cancel_left]) ?_;refine xf (E1 Et) (b3e _ _ _ (by assumption)) ?_;refine kQ5 [2,4,5,6] ?_;refine kQ2 [2,4,5,24] ?_;refine wc (fun c24=>?_) fun c24=>?_
 refine kQ3 [2,3] ?_;refine w2 h (h1:=cA H2) ?_;exact⟨by unfold a9V;rw[c12];simp only[Bool.false_eq_true,if_false,c24,if_true];rfl,rfl⟩;refine kQ0 [2,4,5] ?_;refine kA1 ?_;refine xG (PO.conv b0w a2o Et) ?_;refine kA2 ?_;refine xG (M2 Ek Et (by omega)) ?_;refine kQ2 [2,3] ?_;refine w2 h (h1:=cA H2) ?_;exact⟨by unfold a9V;rw[c12];simp only[Bool.false_eq_true,if_false,c24];rfl,rfl⟩
theorem a9L {s:B} {i:Nat} {c:UInt8} (h:s[i]?=some c):chB s i=(c.toNat:Int):=by unfold chB;rw[List.getD_eq_getElem?_getD,h];rfl
theorem a8X {v:Int} (h:0<=v/\v < 256):IntKind.i32.wrap v=v:=by
 unfold IntKind.wrap;simp[IntKind.bits,IntKind.signed];omega
theorem b33 (c:UInt8):IntKind.i32.wrap (c.toNat:Int)=(c.toNat:Int):=a8X ⟨by omega,by have:=c.toNat_lt;omega⟩
theorem b6b {s:B} (h:s.length<=2):0<=(a04 s).1/\(a04 s).1 < 256:=by
 unfold a04;rw[a3i];cases hv:a6g 16 s 0 with
 | none=>exact⟨Int.le_refl 0,show(0:Int) < 256 by decide⟩
 | some v=>
  have hb:=a1f (by decide) a3H s 0 v (by decide) hv;have hp:(16:Int) ^ s.length<=16 ^ 2:=by exact_mod_cast Nat.pow_le_pow_right (by decide) h
  simp only;omega
theorem b9i (s:B) (h:List Res) (m:View) (hs:s.length<=9223372036854775807):CT Tryz.prog 220 [str s] h m (A3 h (.tuple #[.int .i32 (K0 s).1,.int .i64 (K0 s).2])):=by
 match s with
 | []=>
  refine CT.body Tryz.call220 Tryz.func220 rfl Tryz.ntmps220 Lb rfl ?_;refine kQ2 [0] ?_;refine kA1 ?_;refine xG (M6 Et Ek) ?_;refine kA2 ?_;refine F6 (GU.f rfl rfl) (fun hc=>I7 uu9 (Eg hc) Ek (q:=0) rfl (c:=0) (by simp at hc)) Lb ?_;refine kA4 ?_;refine F6 (GU.f rfl rfl) (fun hc=>I7 uu9 (Eg hc) Ek (q:=0) rfl (c:=0) (by simp at hc)) Lb ?_;refine kA4 ?_;refine F6 (GU.f rfl rfl) (fun hc=>I7 uu9 (Eg hc) Ek (q:=0) rfl (c:=0) (by simp at hc)) Lb ?_;refine kQ3 [0,7] ?_;refine wc (fun c7=>?_) fun c7=>?_
  refine kQ2 [2,3] ?_;refine w2 h ?_;exact⟨rfl,rfl⟩;simp at c7
 | a::t=>
  refine CT.body Tryz.call220 Tryz.func220 rfl Tryz.ntmps220 Lb rfl ?_;refine kQ2 [0] ?_;refine kA1 ?_;refine xG (M6 Et Ek) ?_;refine kA2 ?_;refine zG (fun hc=>I7 uu9 (Eg hc) Ek (q:=0) rfl (c:=a) rfl) ?_;refine kA4 ?_;refine zG (fun hc=>I7 uu9 (Eg hc) Ek (q:=0) rfl (c:=a) rfl) ?_;refine kA4 ?_;refine zG (fun hc=>I7 uu9 (Eg hc) Ek (q:=0) rfl (c:=a) rfl) ?_;refine kQ3 [0,7] ?_;refine wc (fun c7=>?_) fun c7=>?_
  have d7:((a::t==[])||decide (chB (a::t) 0 < 32)||decide (chB (a::t) 0 > 126)||(chB (a::t) 0==39))=true:=c7;refine kQ2 [2,3] ?_;refine w2 h ?_;exact⟨by unfold K0;rw[d7];rfl,rfl⟩;have d7:((a::t==[])||decide (chB (a::t) 0 < 32)||decide (chB (a::t) 0 > 126)||(chB (a::t) 0==39))=false:=c7;refine kA1 ?_;refine xG (I7 uu9 Et Ek (q:=0) rfl (c:=a) rfl) ?_;refine kQ2 [0,25] ?_;refine wc (fun c25=>?_) fun c25=>?_
  have d25:(chB (a::t) 0 != 42)=true:=c25;refine kA1 ?_;refine xG (I7 uu9 Et Ek (q:=0) rfl (c:=a) rfl) ?_;refine xG (PO.conv uu5 a2o Et) ?_;refine WL.val (v':=.int .i32 (a.toNat:Int)) (congrArg (Value.int .i32) (b33 a)) ?_;refine kQ2 [2,3] ?_;refine w2 h ?_;exact⟨by unfold K0;rw[d7,d25];rfl,rfl⟩;have d25:(chB (a::t) 0 != 42)=false:=c25;refine kA1 ?_;refine xG (L2 uu9 Et) ?_;refine kQ2 [0,32] ?_;refine wc (fun c32=>?_) fun c32=>?_
  refine kQ2 [2,3] ?_;refine w2 h ?_;exact⟨by unfold K0;rw[d7,d25,c32];rfl,rfl⟩;have h2:2<=(a::t).length:=by simp at c32 ⊢;omega
  obtain⟨c1,hc1⟩:=A5 (l:=a::t) (k:=1) (by omega);have g1:(a::t).getD 1 0=c1:=by rw[List.getD_eq_getElem?_getD,hc1];rfl
  refine kQ0 [0] ?_;refine kA1 ?_;refine xG (I7 uu9 Et Ek (q:=1) rfl (by assumption)) ?_;refine xf (E2 Ek Et) (CT.argsE rfl (a7b a4A c1 _ _)) ?_;refine WL.val (v':=.int .i64 (esc c1)) rfl ?_;refine kQ1 [0,4] ?_;refine kQ2 [0,4,40] ?_;refine wc (fun c40=>?_) fun c40=>?_
  have d40:decide (esc ((a::t).getD 1 0) >= 0)=true:=by rw[g1];exact c40
  have he0:0<=esc c1:=dT c40;have he1:(esc c1).toNat < 7:=by have:=a3R c1 a4A;have e:(a4A.length:Int)=7:=rfl;unfold esc at he0 ⊢;omega
  obtain⟨x,hx⟩:=A5 (l:=a0X) (k:=(esc c1).toNat) he1;refine kA1 ?_;refine WL.val (v':=.int .i64 ((esc c1).toNat:Int)) (congrArg (Value.int .i64) (by omega)) ?_;refine xG (I7 uu9 Ek Et rfl (by assumption)) ?_;refine xG (PO.conv uu5 a2o Et) ?_;refine WL.val (v':=.int .i32 (x.toNat:Int)) (congrArg (Value.int .i32) (b33 x)) ?_;refine kQ2 [2,3] ?_;refine w2 h ?_;exact⟨by unfold K0;rw[d7,d25,c32,d40,g1,a9L hx];rfl,rfl⟩;have d40:decide (esc ((a::t).getD 1 0) >= 0)=false:=by rw[g1];exact c40
  refine kQ0 [0] ?_;refine kA1 ?_;refine xG (I7 uu9 Et Ek (q:=1) rfl (by assumption)) ?_;refine kA3 ?_;refine zG (fun hc=>L2 uu9 (Eg hc)) ?_;refine kQ2 [0,51] ?_;refine wc (fun c51=>?_) fun c51=>?_
  have d51:((chB (a::t) 1 != 35)||decide (((a::t).length:Int) < 4))=true:=by rw[a9L hc1];exact c51
  refine kQ2 [2,3] ?_;refine w2 h ?_;exact⟨by unfold K0;rw[d7,d25,c32,d40,d51];rfl,rfl⟩;have d51:((chB (a::t) 1 != 35)||decide (((a::t).length:Int) < 4))=false:=by rw[a9L hc1];exact c51
  have h4:4<=(a::t).length:=by simp at c51 ⊢;omega
  have hsl:(((a::t).drop 2).take 2).length<=8:=by rw[List.length_take];omega
  have hx:=b6b (s:=((a::t).drop 2).take 2) (by rw[List.length_take];omega);refine kQ0 [0] ?_;refine kA1 ?_;refine xG (a0u uu9 Et Ek Ek (l:=2) (u:=4) rfl rfl (by omega) (by omega)) ?_;refine WL.val (v':=str (((a::t).drop 2).take 2)) rfl ?_;refine xf (E1 Et) (b3e _ _ _ (by assumption)) ?_;refine kQ5 [5,6] ?_;refine kQ2 [5,59] ?_;refine wc (fun c59=>?_) fun c59=>?_
  refine kQ2 [2,3] ?_;refine w2 h ?_;exact⟨by unfold K0;rw[d7,d25,c32,d40,d51,c59];rfl,rfl⟩;refine kQ0 [5] ?_;refine kA1 ?_;refine xG (PO.conv b0w a2o Et) ?_;refine WL.val (v':=.int .i32 (a04 (((a::t).drop 2).take 2)).1) (congrArg (Value.int .i32) (a8X hx)) ?_;refine kQ2 [2,3] ?_;refine w2 h ?_;exact⟨by unfold K0;rw[d7,d25,c32,d40,d51,c59];rfl,rfl⟩
end
section
open Go.Eng Go.Xp Go
open Go.Ty (Tok B2 B4 R1)
open Go.Lx (J4)
theorem a1M {h hs:List Res} (q:h.Sublist hs) (fr:List Res):h.Sublist (fr++hs):=q.trans (List.sublist_append_right fr hs)
abbrev H0 (b:Nat) (a:Option Addr) (c:Nat) (ts:List Tok) (k:Int) (o:Int):Res:=.pt b (.cells [.slice a ts.length c,.int .i64 k,.int .i64 o].toArray 257 (0,0))
structure Tks (m:View) (h:List Res) (a:Option Addr) (c:Nat) (ts:List Tok):Prop where
 rd:Rd m h a ts.length c 4 (fl B2 ts)
 le:ts.length<=1000000
 tx:∀ t ∈ ts,t.text.length<=140737488355328
theorem Tks.mono {m:View} {h h':List Res} {a:Option Addr} {c:Nat} {ts:List Tok} (q:Tks m h a c ts) (s:h.Sublist h'):Tks m h' a c ts:=⟨q.rd.mono Vl s,q.le,q.tx⟩
theorem P5 {m:View} (hg:Glob m) (b:Nat) (a:Option Addr) (c:Nat) (ts:List Tok) (k:Nat) (o:Int) (h:List Res) (hr:H0 b a c ts k o ∈ h) (hk:Tks m h a c ts):CT Tryz.prog 242 [.pointer (some ⟨b,0,none⟩)] h m (A3 h (R1 (C7 (ts.drop k)))):=by
 have hrd:=hk.rd;have hle:=hk.le;obtain⟨t,ht⟩:∃ t,t=ts.getD k zeroT:=⟨_,rfl⟩;have hel:k < ts.length->ts[k]?=some t:=fun hq=>by rw[ht,List.getD_eq_getElem?_getD,List.getElem?_eq_getElem hq];rfl
 have htx:t.text.length<=140737488355328:=by
  rcases Nat.lt_or_ge k ts.length with hq | hq
  ·exact hk.tx t (List.mem_of_getElem? (hel hq))
  ·rw[ht,List.getD_eq_getElem?_getD,List.getElem?_eq_none hq];decide
 refine CT.body Tryz.call242 Tryz.func242 rfl Tryz.ntmps242 Lb rfl ?_;refine j0 ?_;refine xW fun b2=>?_
 refine kQ0 [0,2] ?_;refine dS [] (.op 0 (.op 1 (.op 2 (.op 3 (.op 4 (.op 5 (.op 6 (.op 7 (.op 8 (.op 9 (.op 10 (.op 11 (.op 12 (.op 13 (.op 14 (.op 15 (.op 16 (.op 17 (.op 18 .nil))))))))))))))))))) [19,20,21,22,23] D6 ?_;refine kA3 ?_;refine yG rfl (D0 uu3 rfl Et (List.mem_cons_of_mem _ hr) rfl) ?_;refine kA3 ?_;refine yG rfl (D0 Z0 rfl Et (List.mem_cons_of_mem _ hr) rfl) ?_;refine yG rfl (S4 Z0 Et) ?_;refine yG rfl (O0 Et Et rfl) ?_;refine kA1 ?_;refine B6 rfl rfl (GU.f rfl rfl) (fun hc=>PO.move Et) Lb ?_;refine B6 rfl rfl (GU.f rfl rfl) (fun hc=>PO.nilCheck (Eg hc)) Lb ?_;refine B6 rfl rfl (GU.f rfl rfl) (fun hc=>PO.fieldAddr b6G rfl (Nat.ne_of_beq_eq_false rfl) (Eg hc)) Lb ?_;refine B6 rfl rfl (GU.f rfl rfl) (fun hc=>D0 Z0 rfl (Eg hc) (List.mem_cons_of_mem _ hr) rfl) Lb ?_;refine B6 rfl rfl (GU.f rfl rfl) (fun hc=>PO.move Et) Lb ?_
 refine B6 rfl rfl (GU.f rfl rfl) (fun hc=>PO.nilCheck (Eg hc)) Lb ?_;refine B6 rfl rfl (GU.f rfl rfl) (fun hc=>PO.fieldAddr b6G rfl (Nat.ne_of_beq_eq_false rfl) (Eg hc)) Lb ?_;refine B6 rfl rfl (GU.f rfl rfl) (fun hc=>D0 uu3 rfl (Eg hc) (List.mem_cons_of_mem _ hr) rfl) Lb ?_;refine SR.nil rfl rfl ?_;refine F6 (GU.f rfl rfl) (fun hc=>G1 A6.und A6.size A6.posz (Eg hc) (Eg hc) Rr rfl (by simp at hc;omega)) Lb ?_;refine F6 (GU.f rfl rfl) (fun hc=>a3E H2 rfl rfl B4 Rr (Eg hc) (hel (by simp at hc;omega)) rfl rfl (Nat.succ_pos _)) Lb ?_;refine A7 (GU.f rfl rfl) (fun hc=>⟨Ef,(E1 (Eg hc)),b0D t _ _ hg htx⟩) Lb ?_;refine kQ2 [0,2,27] ?_;refine wc (fun c27=>?_) fun c27=>?_
 have hz:C7 (ts.drop k)=zeroT:=by
  rcases Nat.lt_or_ge k ts.length with hq | hq
  ·rw[W2 (hel hq),a3x]
   have h1:decide ((k:Int) >= (ts.length:Int))=false:=decide_eq_false (by omega);rw[h1] at c27;have h2:J4 t=false:=by simpa using c27
   rw[h2];rfl
  ·rw[List.drop_eq_nil_of_le hq];rfl
 refine kQ2 [2] ?_;refine WC.ret (a7p (h':=h) (.inl rfl) rfl (I1 H2 rfl rfl rfl Me rfl) Vl Sb ?_);exact⟨by rw[hz];rfl,rfl⟩;have hq:k < ts.length:=by
  rcases Nat.lt_or_ge k ts.length with hq | hq
  ·exact hq
  ·have h1:decide ((k:Int) >= (ts.length:Int))=true:=decide_eq_true (by omega)
   rw[h1] at c27;cases c27
 have hx:=hel hq;have hz:C7 (ts.drop k)={ t with at_:=0 }:=by
  have h1:decide ((k:Int) >= (ts.length:Int))=false:=decide_eq_false (by omega);rw[h1] at c27;have h2:J4 t=true:=by simpa using c27
  rw[W2 hx,a3x,h2];rfl
 refine kQ0 [0,2] ?_;refine dS [10] (.op 0 (.op 1 (.op 2 (.op 3 (.op 4 (.op 5 (.op 6 (.op 7 (.op 8 (.op 9 (.op 10 .nil))))))))))) [11] D6 ?_;refine kA3 ?_;refine yG rfl (D0 Z0 rfl Et (List.mem_cons_of_mem _ hr) rfl) ?_;refine kA3 ?_;refine yG rfl (D0 uu3 rfl Et (List.mem_cons_of_mem _ hr) rfl) ?_;refine kA2 ?_;refine SR.alloc rfl rfl rfl rfl Lb fun b3=>?_
 refine SR.nil rfl rfl ?_;refine kQ1 [2,3] ?_;refine kQ2 [2,3] ?_;refine kQ2 [2] ?_;refine WC.ret (a7p (h':=h) (.inl rfl) rfl (I1 H2 rfl rfl rfl Me rfl) Vl Sb ?_);exact⟨by rw[hz];rfl,rfl⟩
abbrev b7h (e:Int):Value:=.iface 253 (.agg #[.int .i64 e])
theorem X8 {t u:Tok} (h:Go.Ty.eqK t u=true):t=u:=(Go.Ty.eqK_iff t u).1 h
theorem X9 {t u:Tok} (h:Go.Ty.eqK t u=false):t≠u:=fun q=>by rw[(Go.Ty.eqK_iff t u).2 q] at h;cases h
theorem R2 {k:Nat} {ts:List Tok} (h:(C7 (ts.drop k)).kind≠0):k < ts.length:=b8Z (b4z h)
theorem b3J {m:View} (hg:Glob m) (b:Nat) (a:Option Addr) (c:Nat) (ts:List Tok) (k:Nat) (o:Int) (u:Tok) (h:List Res) (hk:Tks m h a c ts) (hkl:k<=ts.length) :
 CX Tryz.prog 260 [.pointer (some ⟨b,0,none⟩),R1 u] (H0 b a c ts k o::h) m (fun _ _ h'=>C7 (ts.drop k)=u/\h'=H0 b a c ts (k+1:Nat) o::h) (fun v h'=>C7 (ts.drop k)≠u/\v=b7h 100/\h'=H0 b a c ts k o::h):=by
 have hle:=hk.le;refine CX.body Tryz.call260 Tryz.func260 rfl Tryz.ntmps260 Lb rfl ?_;refine j0 ?_;refine xX fun b3=>?_
 refine kQ0 [0,3] ?_;refine dS [1] (.op 0 (.op 2 (.op 1 .nil))) [3] D6 ?_;refine kA2 ?_;refine yf rfl (E1 Et) (fun fr=>P5 hg b a c ts k o _ (List.mem_append_right fr Me) (Tks.mono hk (a1M Sb fr))) ?_;refine SR.nil rfl rfl ?_;refine xG (a9r H2 (by kernel_rfl) (by kernel_rfl) Et Et rfl) ?_;refine kQ0 [0,7] ?_;refine wc (fun c7=>?_) fun c7=>?_
 have d7:Go.Ty.eqK (C7 (ts.drop k)) u=false:=by have c7':(!Go.Ty.eqK (C7 (ts.drop k)) u)=true:=c7;simpa using c7'
 refine kA1 ?_;refine xG (U2 a98 Et) ?_;refine WL.panic Et (a1d (P:=Tryz.prog) (fn:=Tryz.f260) (H0 b a c ts k o::h) Vl Sb ?_);exact⟨X9 d7,rfl,rfl⟩;have d7:Go.Ty.eqK (C7 (ts.drop k)) u=true:=by have c7':(!Go.Ty.eqK (C7 (ts.drop k)) u)=false:=c7;simpa using c7'
 refine kQ0 [0] ?_;refine kA8 ?_;refine WL.nil (toX (.inr rfl) (a9h (h':=H0 b a c ts (k+1:Nat) o::h) (.inr rfl) rfl  Vl Sb ?_));exact⟨X8 d7,rfl⟩
theorem b8q (t:Tok) (n o:Nat):opF t (n+1) o=if t=I9 o then o else opF t n (o+1):=rfl
theorem c3r {m:View} (hg:Glob m) (b:Nat) (a:Option Addr) (c:Nat) (ts:List Tok) (k:Nat) (o:Int) (p z:Nat) (hp:p<=z/\z<=100) (h0:p≠0) (h:List Res) (hk:Tks m h a c ts) (hkl:k<=ts.length) :
 CT Tryz.prog 245 [.pointer (some ⟨b,0,none⟩),.int .u8 p,.int .u8 z] (H0 b a c ts k o::h) m
  (fun v _ h'=>v=.int .u8 (opF (C7 (ts.drop k)) (z+1 - p) p)/\h'=H0 b a c ts (if opF (C7 (ts.drop k)) (z+1 - p) p=0 then k else k+1:Nat) o::h):=by
 have hle:=hk.le;obtain⟨t,ht⟩:∃ t,t=C7 (ts.drop k):=⟨_,rfl⟩;refine CT.body Tryz.call245 Tryz.func245 rfl Tryz.ntmps245 Lb rfl ?_;refine kQ1 [0,1,2] ?_;refine kA1 ?_;refine xf (E1 Et) (P5 hg b a c ts k o _ Me (hk.mono Sb)) ?_;refine xW fun b7=>?_
 refine kA1 ?_;rw[<- ht];refine kQ0 [0,1,2,7] ?_;refine kQ2 [0,2,7,8] ?_;refine B0 [0,2,7] rfl (fun μ F' h'=>∃ j:Nat,((p<=j/\j<=z+1)/\opF t (z+1 - p) p=opF t (z+1 - j) j)/\z+1 - j=μ/\F'=[(8,.int .u8 j)]/\.pt b7 (.cells (B2 t).toArray 120 (0,0))::H0 b a c ts k o::h=h') (z+1 - p) [(8,.int .u8 p)] (h0:=.pt b7 (.cells (B2 t).toArray 120 (0,0))::H0 b a c ts k o::h) ?_ Sb ⟨p,⟨⟨by omega,by omega⟩,rfl⟩,rfl,rfl,rfl⟩ ?_;exact Su;rintro _ _ _ ⟨j,⟨hj,hJ⟩,rfl,rfl,rfl⟩;refine B1 rfl ?_;refine kQ3 [0,2,7,8,14] ?_;refine wc (fun c14=>?_) fun c14=>?_
 replace c14:=dT c14;obtain⟨n,hn⟩:∃ n,z+1 - j=n+1:=⟨z - j,by omega⟩;have hn2:z+1 - (j+1)=n:=by omega
 rw[hn,b8q] at hJ;refine kQ0 [0,2,7,8] ?_;refine dS [2] (.op 0 (.op 1 (.op 2 .nil))) [3] D6 ?_;refine kA2 ?_;refine yf rfl (E1 Et) (fun fr=>a2W hg j (by omega) _) ?_;refine SR.nil rfl rfl ?_;refine xG (a0f H2 (by kernel_rfl) (by kernel_rfl) Et Et rfl) ?_;refine kQ0 [0,2,7,8,20] ?_;refine wc (fun c20=>?_) fun c20=>?_
 have d20:t=I9 j:=X8 c20;rw[if_pos d20] at hJ;refine kQ8 [8] ?_;refine kQ2 [6] ?_;refine wT (H0 b a c ts (k+1:Nat) o::h) ?_
 (try rw[<- ht]);rw[hJ,if_neg (by omega)];exact⟨rfl,rfl⟩
 have d20:t≠I9 j:=X9 c20;rw[if_neg d20] at hJ;refine kQ0 [0,2,7,8] ?_;refine kA2 ?_;refine WL.val (v':=.int .u8 (j+1:Nat)) (congrArg (Value.int .u8) (by unfold IntKind.wrap;simp[IntKind.bits,IntKind.signed];omega)) ?_;refine kA1 ?_;refine WL.nil (A4 (z+1 - (j+1)) [(8,.int .u8 (j+1))] (h'':=.pt b7 (.cells (B2 t).toArray 120 (0,0))::H0 b a c ts k o::h) (by omega) ?_ Su Sb ⟨j+1,⟨⟨by omega,by omega⟩,by rw[hn2];exact hJ⟩,rfl,rfl,rfl⟩);exact Su;replace c14:=dF c14;rw[show z+1 - j=0 by omega] at hJ;replace hJ:opF t (z+1 - p) p=0:=hJ;refine kQ0 [] ?_;refine kQ1 [6] ?_;refine wT (H0 b a c ts k o::h) ?_
 (try rw[<- ht]);rw[hJ,if_pos rfl];exact⟨rfl,rfl⟩
end
section
open Go.Eng Go.Xp Go
open Go.Ty (Tok B2 B4 R1)
open Go.Lx (J4)
abbrev c4l (m:View) (b:Nat) (a:Option Addr) (c:Nat) (ts:List Tok) (o:Int) (res:a03) (v:Value) (hp:List Res):Prop:=
 ∃ (x:Ex) (k':Nat) (t:Ex) (bl:List Res),(res=.ok (x,ts.drop k')/\k'<=ts.length)/\v=exV t/\(B8 t=x/\TOk m bl t/\Wf t)/\hp=H0 b a c ts k' o::bl
abbrev c4p (b:Nat) (a:Option Addr) (c:Nat) (ts:List Tok) (res:a03) (v:Value) (h h':List Res):Prop:=
 ∃ (e k o:Int),res=.error e/\v=b7h e/\h'=H0 b a c ts k o::h
abbrev PCX (m:View) (f:FuncId) (args:List Value) (b:Nat) (a:Option Addr) (c:Nat) (ts:List Tok) (k:Nat) (o:Int) (res:a03) (h:List Res):Prop:=
 CX Tryz.prog f args (H0 b a c ts k o::h) m (fun v _ h'=>∃ hp,h'=hp++h/\c4l m b a c ts o res v hp) (fun v h'=>c4p b a c ts res v h h')
theorem X0 (ts:List Tok) (k:Nat):(ts.drop k).tail=ts.drop (k+1):=by rw[List.tail_drop]
theorem a1b (m:View) (bl:List Res) (k o t n:Int) (s:B):TOk m bl (.mk k o t n s none 0 []):=.mk (Rd.nilF exE 6 m bl) (fun _ hx=>(List.not_mem_nil hx).elim)
theorem b06 {m:View} {bl:List Res} {x:Ex} (q:TOk m bl x) (b:Nat) (k o t n:Int) (s:B):TOk m (.pt b (.cells (exE x).toArray 29 (0,0))::bl) (.mk k o t n s (some ⟨b,0,none⟩) 1 [x]):=
 .mk (Rd.ofPt rfl (by show 1<=_;decide) (List.Mem.head _)) (fun y hy=>by rw[List.mem_singleton] at hy;subst hy;exact q.mono (List.sublist_cons_self _ _))
theorem b9B {m:View} {bl bl2:List Res} {x y:Ex} (q:TOk m bl x) (r:TOk m bl2 y) (b:Nat) (k o t n:Int) (s:B):TOk m (.pt b (.cells (exE x++exE y).toArray 29 (0,0))::(bl2++bl)) (.mk k o t n s (some ⟨b,0,none⟩) 2 [x,y]):=
 .mk (Rd.ofPt rfl (by show 2<=_;decide) (List.Mem.head _)) (fun z hz=>by
 rcases List.mem_cons.1 hz with rfl | hz
 ·exact q.mono ((List.sublist_append_right _ _).cons _)
 ·rw[List.mem_singleton] at hz
  subst hz;exact r.mono ((List.sublist_append_left _ _).cons _))
theorem b21 {x:Ex} (q:Wf x) {k o t n:Int} {s:B} {a:Option Addr} {c:Nat} (hk:0<=k/\k<=255) (ho:0<=o/\o<=255) (ht:0<=t/\t<=255) (hn:-2147483648<=n/\n<=2147483647) (hs:s.length<=140737488355328):Wf (.mk k o t n s a c [x]):=
 .mk hk ho ht hn hs fun y hy=>by rw[List.mem_singleton] at hy;subst hy;exact q
theorem c1J {x y:Ex} (q:Wf x) (r:Wf y) {k o t n:Int} {s:B} {a:Option Addr} {c:Nat} (hk:0<=k/\k<=255) (ho:0<=o/\o<=255) (ht:0<=t/\t<=255) (hn:-2147483648<=n/\n<=2147483647) (hs:s.length<=140737488355328):Wf (.mk k o t n s a c [x,y]):=
 .mk hk ho ht hn hs fun z hz=>by
  rcases List.mem_cons.1 hz with rfl | hz
  ·exact q
  ·rw[List.mem_singleton] at hz
   subst hz;exact r
theorem a2u {k o t n:Int} {s:B} (hk:0<=k/\k<=255) (ho:0<=o/\o<=255) (ht:0<=t/\t<=255) (hn:-2147483648<=n/\n<=2147483647) (hs:s.length<=140737488355328):Wf (.mk k o t n s none 0 []):=
 .mk hk ho ht hn hs fun _ hx=>(List.not_mem_nil hx).elim
section
variable {m:View} (hg:Glob m) (b:Nat) (a:Option Addr) (c:Nat) (ts:List Tok)
abbrev INS (m:View) (b:Nat) (a:Option Addr) (c:Nat) (ts:List Tok) (f:Nat):Prop:=∀ (h:List Res) (k:Nat) (o s:B),Tks m h a c ts->k<=ts.length->PCX m 256 [.pointer (some ⟨b,0,none⟩),str o,str s] b a c ts k (32 - f) (S9 f o s (ts.drop k)) h
abbrev OPN (m:View) (b:Nat) (a:Option Addr) (c:Nat) (ts:List Tok) (f:Nat):Prop:=∀ (h:List Res) (k:Nat),Tks m h a c ts->k<=ts.length->PCX m 244 [.pointer (some ⟨b,0,none⟩)] b a c ts k (32 - f) (Q1 (S9 f) (ts.drop k)) h
abbrev EXP (m:View) (b:Nat) (a:Option Addr) (c:Nat) (ts:List Tok) (f:Nat):Prop:=∀ (h:List Res) (k:Nat),Tks m h a c ts->k<=ts.length->PCX m 205 [.pointer (some ⟨b,0,none⟩)] b a c ts k (32 - f) (a0l (S9 f) (ts.drop k)) h
theorem c3Q:INS m b a c ts 0:=by
 intro h k o s hk hkl;refine CX.body Tryz.call256 Tryz.func256 rfl Tryz.ntmps256 Lb rfl ?_;refine j0 ?_;refine xW fun b6=>?_
 refine kQ0 [0,1,2,6] ?_;refine kQ5 [0,1,2,6,12] ?_;refine wc (fun c12=>?_) fun c12=>?_
 replace c12:=F9 c12;refine kA1 ?_;refine xG (U2 a98 Et) ?_;refine WL.panic Et (a1d (P:=Tryz.prog) (fn:=Tryz.f256) (H0 b a c ts k 32::h) Vl Sb ?_);exact⟨_,_,_,rfl,rfl,rfl⟩;cases c12
include hg
theorem c4d {f:Nat} (hf:f < 32) (hE:EXP m b a c ts f):INS m b a c ts (f+1):=by
 intro h k o s hk hkl;have hq:S9 (f+1) o s (ts.drop k)=if C7 (ts.drop k)=C1 o then (match a0l (S9 f) (ts.drop (k+1)) with
  | .error e=>.error e
  | .ok (x,r)=>if C7 r=C1 s then .ok (x,r.tail) else .error 100) else .error 100:=by rw[<- X0];rfl
 refine CX.body Tryz.call256 Tryz.func256 rfl Tryz.ntmps256 Lb rfl ?_;refine j0 ?_;refine xW fun b6=>?_
 refine kQ0 [0,1,2,6] ?_;refine kQ5 [0,1,2,6,12] ?_;refine wc (fun c12=>?_) fun c12=>?_
 replace c12:=F9 c12;omega;replace c12:=F7 c12;refine kQ0 [0,1,2,6] ?_;refine kA5 ?_;refine WL.val (v':=.int .i64 (32 - (f:Int))) (congrArg (Value.int .i64) (by omega)) ?_;refine kQ3 [0,1,2,6] ?_;refine kA2 ?_;refine xf (E1 Et) (X1 _ _ _) ?_;refine pD (H0 b a c ts k (32 - f)) ?_;refine A0 Ef (E2 Et Et) (b3J hg b a c ts k (32 - f) (C1 o) _ (hk.mono Sb) hkl) Lb (fun v hv hx=>?_) fun v25 h25 hr25=>?_
 ·obtain⟨hx1,rfl,rfl⟩:=hx
  rw[if_neg hx1] at hq;exact a1d (P:=Tryz.prog) (fn:=Tryz.f256) (H0 b a c ts k (32 - f)::h) Vl Sb ⟨_,_,_,hq,rfl,rfl⟩
 obtain⟨hn25,rfl⟩:=hr25;refine kQ0 [0,2,6] ?_;have hkl2:k < ts.length:=R2 (by rw[hn25];exact(by decide:(5:Int)≠0));rw[if_pos hn25] at hq;refine kA1 ?_;refine A0 Ef (E1 Et) (hE _ (k+1) (hk.mono Sb) (by omega)) Lb (fun v hv hx=>?_) fun v27 h27 hr27=>?_
 ·obtain⟨e,k2,o2,hres,rfl,rfl⟩:=hx
  rw[hres] at hq;exact a1d (P:=Tryz.prog) (fn:=Tryz.f256) (H0 b a c ts k2 o2::h) Vl Sb ⟨_,_,_,hq,rfl,rfl⟩
 obtain⟨hp27,rfl,x,k2,t,bl,⟨hres,hk2⟩,rfl,⟨hst,hT,hW⟩,rfl⟩:=hr27;refine WL.perm (h':=H0 b a c ts k2 (32 - f)::.pt b6 _::(bl++h)) (List.Perm.cons _ List.perm_middle) ?_;rw[hres] at hq;refine xW fun b7=>?_
 refine kQ1 [0,2,6,7] ?_;refine kA2 ?_;refine xf (E1 Et) (X1 _ _ _) ?_;refine pD (H0 b a c ts k2 (32 - f)) ?_;refine A0 Ef (E2 Et Et) (b3J hg b a c ts k2 (32 - f) (C1 s) _ (hk.mono Sb) hk2) Lb (fun v hv hx=>?_) fun v31 h31 hr31=>?_
 ·obtain⟨hx1,rfl,rfl⟩:=hx
  replace hq:=hq.trans (if_neg hx1);exact a1d (P:=Tryz.prog) (fn:=Tryz.f256) (H0 b a c ts k2 (32 - f)::h) Vl Sb ⟨_,_,_,hq,rfl,rfl⟩
 obtain⟨hn31,rfl⟩:=hr31;refine kQ0 [0,6,7] ?_;have hkl3:k2 < ts.length:=R2 (by rw[hn31];exact(by decide:(5:Int)≠0));replace hq:=hq.trans (if_pos hn31);rw[X0] at hq;refine kA4 ?_;refine xG (U0 Et Ek (by omega)) ?_;refine WL.val (v':=.int .i64 (32 - ((f+1:Nat):Int))) (congrArg (Value.int .i64) (by omega)) ?_;refine kQ3 [6,7] ?_;refine kQ2 [6] ?_;refine xT (H0 b a c ts (k2+1:Nat) (32 - ((f+1:Nat):Int))::(bl++h)) (h1:=cA a1t) ?_;exact⟨H0 b a c ts (k2+1:Nat) (32 - ((f+1:Nat):Int))::bl,rfl,x,k2+1,t,bl,⟨hq,by omega⟩,rfl,⟨hst,hT,hW⟩,rfl⟩
theorem opn {f:Nat} (hI:INS m b a c ts f) (htn:∀ k,(-2147483648<=(C7 (ts.drop k)).n/\(C7 (ts.drop k)).n<=2147483647)/\(C7 (ts.drop k)).text.length<=140737488355328):OPN m b a c ts f:=by
 intro h k hk hkl;obtain⟨t,ht⟩:∃ t,t=C7 (ts.drop k):=⟨_,rfl⟩;have hq:Q1 (S9 f) (ts.drop k)=if t.kind=3 then .ok (sx 1 0 0 t.n [] [],ts.drop (k+1)) else if t.kind=4 then .ok (sx 2 0 0 t.n [] [],ts.drop (k+1))
  else if t=C6 [70,65,76,83,69] then .ok (sx 3 0 0 0 [] [],ts.drop (k+1)) else if t=C6 [84,82,85,69] then .ok (sx 3 0 0 1 [] [],ts.drop (k+1))
  else if t.kind=1 then (if C7 (ts.drop (k+1))=C1 [91] then (match S9 f [91] [93] (ts.drop (k+1)) with
   | .ok (x,r)=>.ok (sx 5 0 0 0 t.text [x],r)
   | .error e=>.error e) else .ok (sx 4 0 0 0 t.text [],ts.drop (k+1)))
  else if t=C1 [40] then S9 f [40] [41] (ts.drop k) else .error 100:=by rw[ht,<- X0];rfl
 have hle:=hk.le;obtain⟨htn1,htx1⟩:=htn k;rw[<- ht] at htn1 htx1;refine CX.body Tryz.call244 Tryz.func244 rfl Tryz.ntmps244 Lb rfl ?_;refine j0 ?_;refine xW fun b2=>?_
 refine kQ0 [0,2] ?_;refine kA1 ?_;refine xf (E1 Et) (P5 hg b a c ts k (32 - f) _ Me (hk.mono Sb)) ?_;refine xW fun b3=>?_
 refine kA1 ?_;rw[<- ht];refine kQ0 [0,2,3] ?_;refine kQ4 [0,2,3,6] ?_;refine wc (fun c6=>?_) fun c6=>?_
 replace c6:=F9 c6;rw[if_pos c6] at hq;have hkl2:k < ts.length:=R2 (by rw[<- ht,c6];decide);refine kQ8 [2,3] ?_;refine kQ4 [2] ?_;refine xT (H0 b a c ts (k+1:Nat) (32 - f)::h) (h1:=cA a1t) ?_;exact⟨H0 b a c ts (k+1:Nat) (32 - f)::[],rfl,_,k+1,.mk 1 0 0 t.n [] none 0 [],[],⟨hq,by omega⟩,rfl,⟨rfl,a1b _ _ _ _ _ _ _,a2u (by omega) (by omega) (by omega) htn1 (Nat.zero_le _)⟩,rfl⟩;replace c6:=F7 c6;rw[if_neg c6] at hq;refine kQ4 [0,2,3,20] ?_;refine wc (fun c20=>?_) fun c20=>?_
 replace c20:=F9 c20;rw[if_pos c20] at hq;have hkl2:k < ts.length:=R2 (by rw[<- ht,c20];decide);refine kQ8 [2,3] ?_;refine kQ4 [2] ?_;refine xT (H0 b a c ts (k+1:Nat) (32 - f)::h) (h1:=cA a1t) ?_;exact⟨H0 b a c ts (k+1:Nat) (32 - f)::[],rfl,_,k+1,.mk 2 0 0 t.n [] none 0 [],[],⟨hq,by omega⟩,rfl,⟨rfl,a1b _ _ _ _ _ _ _,a2u (by omega) (by omega) (by omega) htn1 (Nat.zero_le _)⟩,rfl⟩;replace c20:=F7 c20;rw[if_neg c20] at hq;refine jE ?_;refine dS [1] (.op 0 (.op 1 .nil)) [2,3] D6 ?_;refine kA1 ?_;refine yf rfl (E1 Ek) (fun fr=>U5 hg _ (by decide) _) ?_;refine SR.nil rfl rfl ?_;refine xG (a0f H2 (by kernel_rfl) (by kernel_rfl) Et Et rfl) ?_;refine kQ1 [0,2,3,34] ?_;refine wc (fun c34=>?_) fun c34=>?_
 have d34:=X8 c34;rw[if_pos d34] at hq;have hkl2:k < ts.length:=R2 (by rw[<- ht,d34];rcases U4 [70,65,76,83,69] with h | h <;> rw[h] <;> decide);refine kQ8 [2] ?_;refine kQ2 [2] ?_;refine xT (H0 b a c ts (k+1:Nat) (32 - f)::h) (h1:=cA a1t) ?_;exact⟨H0 b a c ts (k+1:Nat) (32 - f)::[],rfl,_,k+1,.mk 3 0 0 0 [] none 0 [],[],⟨hq,by omega⟩,rfl,⟨rfl,a1b _ _ _ _ _ _ _,a2u (by omega) (by omega) (by omega) (by omega) (Nat.zero_le _)⟩,rfl⟩;have d34:=X9 c34;rw[if_neg d34] at hq;refine jE ?_;refine dS [1] (.op 0 (.op 1 .nil)) [2,3] D6 ?_;refine kA1 ?_;refine yf rfl (E1 Ek) (fun fr=>U5 hg _ (by decide) _) ?_;refine SR.nil rfl rfl ?_;refine xG (a0f H2 (by kernel_rfl) (by kernel_rfl) Et Et rfl) ?_;refine kQ1 [0,2,3,46] ?_;refine wc (fun c46=>?_) fun c46=>?_
 have d46:=X8 c46;rw[if_pos d46] at hq;have hkl2:k < ts.length:=R2 (by rw[<- ht,d46];rcases U4 [84,82,85,69] with h | h <;> rw[h] <;> decide);refine kQ8 [2] ?_;refine kQ2 [2] ?_;refine xT (H0 b a c ts (k+1:Nat) (32 - f)::h) (h1:=cA a1t) ?_;exact⟨H0 b a c ts (k+1:Nat) (32 - f)::[],rfl,_,k+1,.mk 3 0 0 1 [] none 0 [],[],⟨hq,by omega⟩,rfl,⟨rfl,a1b _ _ _ _ _ _ _,a2u (by omega) (by omega) (by omega) (by omega) (Nat.zero_le _)⟩,rfl⟩;have d46:=X9 c46;rw[if_neg d46] at hq;refine kQ4 [0,2,3,58] ?_;refine wc (fun c58=>?_) fun c58=>?_
 replace c58:=F9 c58;rw[if_pos c58] at hq;have hkl2:k < ts.length:=R2 (by rw[<- ht,c58];decide);refine kQ8 [0,2,3] ?_;refine kA1 ?_;refine xf (E1 Et) (P5 hg b a c ts (k+1) (32 - f) _ Me (hk.mono Sb)) ?_;refine xf (E1 Ek) (X1 _ _ _) ?_;refine xG (a0f H2 (by kernel_rfl) (by kernel_rfl) Et Et rfl) ?_;refine kQ0 [0,2,3,72] ?_;refine wc (fun c72=>?_) fun c72=>?_
 have d72:=X8 c72;rw[if_pos d72] at hq;refine jE ?_;refine WC.take (r:=H0 b a c ts (k+1:Nat) (32 - f)) De ?_;refine F2 [3,4] (.op 0 (.op 1 (.op 2 (.op 3 (.op 4 .nil))))) [5,6] _ [_] D6 (fun _ _ _ _ _ h=>h) [] (by kernel_rfl) ?_;refine kA3 ?_;refine a1e rfl rfl Ef (E3 Et Ek Ek) (fun fr=>hI _ (k+1) [91] [93] (Tks.mono hk (a1M Sb fr)) (by omega)) Lb (fun fr v hv hx=>?_) fun v76 h76 hr76=>?_
 ·obtain⟨e,k2,o2,hres,rfl,rfl⟩:=hx
  rw[hres] at hq;exact a1d (P:=Tryz.prog) (fn:=Tryz.f244) (H0 b a c ts k2 o2::h) Vl (List.Sublist.cons_cons _ (a1M Sb fr)) ⟨_,_,_,hq,rfl,rfl⟩
 obtain⟨x,k2,tx,bl,⟨hres,hk2⟩,rfl,⟨hst,hT,hW⟩,rfl⟩:=hr76;rw[hres] at hq;refine sB rfl Y9 fun b77=>?_
 refine a1G (H:=H0 b a c ts k2 (32 - f)::.pt b77 (.cells (exE tx).toArray 29 (0,0))::.pt b3 (.cells (B2 t).toArray 120 (0,0))::.pt b2 (.cells (exE (.mk 0 0 0 0 [] none 0 [])).toArray 29 (0,0))::(bl++h)) rfl ((List.Perm.swap _ _ _).trans (((V2 bl [_,_] h).cons _).cons _)) ?_;refine kQ2 [2] ?_;refine xT (H0 b a c ts k2 (32 - f)::.pt b77 (.cells (exE tx).toArray 29 (0,0))::(bl++h)) (h1:=cA a1t) ?_;exact⟨H0 b a c ts k2 (32 - f)::.pt b77 (.cells (exE tx).toArray 29 (0,0))::bl,rfl,_,k2,.mk 5 0 0 0 t.text (some ⟨b77,0,none⟩) 1 [tx],.pt b77 (.cells (exE tx).toArray 29 (0,0))::bl,⟨hq,hk2⟩,rfl,⟨by rw[<- hst];rfl,b06 hT b77 _ _ _ _ _,b21 hW (by omega) (by omega) (by omega) (by omega) htx1⟩,rfl⟩;have d72:=X9 c72;rw[if_neg d72] at hq;refine kQ0 [2,3] ?_;refine kQ4 [2] ?_;refine xT (H0 b a c ts (k+1:Nat) (32 - f)::h) (h1:=cA a1t) ?_
 exact⟨H0 b a c ts (k+1:Nat) (32 - f)::[],rfl,_,k+1,.mk 4 0 0 0 t.text none 0 [],[],⟨hq,by omega⟩,rfl,⟨rfl,a1b _ _ _ _ _ _ _,a2u (by omega) (by omega) (by omega) (by omega) htx1⟩,rfl⟩;replace c58:=F7 c58;rw[if_neg c58] at hq;refine jE ?_;refine dS [1] (.op 0 (.op 1 .nil)) [2,3] D6 ?_;refine kA1 ?_;refine yf rfl (E1 Ek) (fun fr=>X1 _ _ _) ?_;refine SR.nil rfl rfl ?_;refine xG (a0f H2 (by kernel_rfl) (by kernel_rfl) Et Et rfl) ?_;refine kQ1 [0,2,82] ?_;refine wc (fun c82=>?_) fun c82=>?_
 have d82:=X8 c82;rw[if_pos d82] at hq;refine kA1 ?_;refine pD (H0 b a c ts k (32 - f)) ?_;refine A0 Ef (E3 Et Ek Ek) (hI _ k [40] [41] (hk.mono Sb) hkl) Lb (fun v hv hx=>?_) fun v87 h87 hr87=>?_
 ·obtain⟨e,k2,o2,hres,rfl,rfl⟩:=hx
  rw[hres] at hq;exact a1d (P:=Tryz.prog) (fn:=Tryz.f244) (H0 b a c ts k2 o2::h) Vl Sb ⟨_,_,_,hq,rfl,rfl⟩
 obtain⟨hp87,rfl,x,k2,tx,bl,⟨hres,hk2⟩,rfl,⟨hst,hT,hW⟩,rfl⟩:=hr87;refine WL.perm (h':=H0 b a c ts k2 (32 - f)::.pt b3 _::.pt b2 _::(bl++h)) ((V2 bl [_,_] h).cons _) ?_;rw[hres] at hq;refine kQ1 [2] ?_;refine xT (H0 b a c ts k2 (32 - f)::(bl++h)) (h1:=cA a1t) ?_;exact⟨H0 b a c ts k2 (32 - f)::bl,rfl,x,k2,tx,bl,⟨hq,hk2⟩,rfl,⟨hst,hT,hW⟩,rfl⟩;have d82:=X9 c82;rw[if_neg d82] at hq;refine kQ0 [2] ?_;refine kA1 ?_;refine xG (U2 a98 Et) ?_;refine WL.panic Et (a1d (P:=Tryz.prog) (fn:=Tryz.f244) (H0 b a c ts k (32 - f)::h) Vl Sb ?_);exact⟨_,_,_,hq,rfl,rfl⟩
end
end
section
open Go.Eng Go.Xp Go
open Go.Ty (Tok B2 B4 R1)
open Go.Lx (J4)
theorem b7E {m:View} (hg:Glob m) (b:Nat) (a:Option Addr) (c:Nat) (ts:List Tok) (k:Nat) (o:Int) (p z n:Nat) (t:Tok) (hn:z+1 - p=n) (ht:t=C7 (ts.drop k)) (hp:p<=z/\z<=100) (h0:p≠0) (h:List Res) (hk:Tks m h a c ts) (hkl:k<=ts.length) :
 CT Tryz.prog 245 [.pointer (some ⟨b,0,none⟩),.int .u8 p,.int .u8 z] (H0 b a c ts k o::h) m
  (fun v _ h'=>v=.int .u8 (opF t n p)/\h'=H0 b a c ts (if opF t n p=0 then k else k+1:Nat) o::h):=by
 subst hn ht;exact c3r hg b a c ts k o p z hp h0 h hk hkl
theorem b6O {t:Tok} {i:Nat} (hi:i < 3) (hn:∀ j < i,t≠C6 (K4 ((j+1:Nat):Int))) (h:t=C6 (K4 ((i+1:Nat):Int))):a01 t=i+1:=by
 unfold a01;match i,hi with
 | 0,_=>exact if_pos h
 | 1,_=>
  have n0:t≠C6 (K4 1):=hn 0 (by omega);rw[if_neg n0];exact if_pos h
 | 2,_=>
  have n0:t≠C6 (K4 1):=hn 0 (by omega);have n1:t≠C6 (K4 2):=hn 1 (by omega);rw[if_neg n0,if_neg n1];exact if_pos h
theorem b8r {t:Tok} (hn:∀ j < 3,t≠C6 (K4 ((j+1:Nat):Int))):a01 t=0:=by
 have n0:t≠C6 (K4 1):=hn 0 (by omega);have n1:t≠C6 (K4 2):=hn 1 (by omega);unfold a01;rw[if_neg n0,if_neg n1];exact if_neg (hn 2 (by omega))
section
variable {m:View} (hg:Glob m) (b:Nat) (a:Option Addr) (c:Nat) (ts:List Tok)
include hg
theorem exp {f:Nat} (hO:OPN m b a c ts f) (htn:∀ k,(C7 (ts.drop k)).text.length<=140737488355328):EXP m b a c ts f:=by
 intro h k hk hkl;obtain⟨t,ht⟩:∃ t,t=C7 (ts.drop k):=⟨_,rfl⟩;have hq:a0l (S9 f) (ts.drop k)=if t=C6 [83,73,90,69] then (if (C7 (ts.drop (k+1))).kind=1 then .ok (sx 9 0 0 0 (C7 (ts.drop (k+1))).text [],ts.drop (k+1+1)) else .error 100)
  else if a01 t≠0 then unQ (fun x=>sx 8 0 (a01 t) 0 [] [x]) (Q1 (S9 f) (ts.drop (k+1)))
  else if opF t 4 23≠0 then unQ (fun x=>sx 6 (opF t 4 23) 0 0 [] [x]) (Q1 (S9 f) (ts.drop (k+1)))
  else match Q1 (S9 f) (ts.drop k) with
   | .error e=>.error e
   | .ok (a,r)=>if opF (C7 r) 22 1≠0 then unQ (fun b=>sx 7 (opF (C7 r) 22 1) 0 0 [] [a,b]) (Q1 (S9 f) r.tail) else .ok (a,r):=by
  rw[ht,<- X0,<- X0,<- X0];rfl
 have hle:=hk.le;refine CX.body Tryz.call205 Tryz.func205 rfl Tryz.ntmps205 Lb rfl ?_;refine j0 ?_;refine xW fun b2=>?_
 refine kQ0 [0,2] ?_;refine kA1 ?_;refine xf (E1 Et) (P5 hg b a c ts k (32 - f) _ Me (hk.mono Sb)) ?_;refine xW fun b3=>?_
 refine kA1 ?_;rw[<- ht];refine kQ0 [0,2,3] ?_;refine dS [1] (.op 0 (.op 1 .nil)) [2] D6 ?_;refine kA1 ?_;refine yf rfl (E1 Ek) (fun fr=>U5 hg _ (by decide) _) ?_;refine SR.nil rfl rfl ?_;refine xG (a0f H2 (by kernel_rfl) (by kernel_rfl) Et Et rfl) ?_;refine kQ0 [0,2,3,13] ?_;refine wc (fun c13=>?_) fun c13=>?_
 have d13:=X8 c13;rw[if_pos d13] at hq;have hkl2:k < ts.length:=R2 (by rw[<- ht,d13];rcases U4 [83,73,90,69] with h | h <;> rw[h] <;> decide);refine kQ8 [0,2,3] ?_;refine kA1 ?_;refine xf (E1 Et) (P5 hg b a c ts (k+1) (32 - f) _ Me (hk.mono Sb)) ?_;refine kQ1 [0,2,3] ?_;refine kQ3 [0,2,3,25] ?_;refine wc (fun c25=>?_) fun c25=>?_
 replace c25:=a1i c25;rw[if_neg c25] at hq;refine kA1 ?_;refine xG (U2 a98 Et) ?_;refine WL.panic Et (a1d (P:=Tryz.prog) (fn:=Tryz.f205) (H0 b a c ts (k+1:Nat) (32 - f)::h) Vl Sb ?_);exact⟨_,_,_,hq,rfl,rfl⟩;replace c25:=a0U c25;rw[if_pos c25] at hq;have hkl3:k+1 < ts.length:=R2 (by rw[c25];decide);refine kQ0 [0,2,3] ?_;refine kQ8 [2,3] ?_;refine kQ4 [2] ?_;refine xT (H0 b a c ts (k+1+1:Nat) (32 - f)::h) (h1:=cA a1t) ?_;exact⟨H0 b a c ts (k+1+1:Nat) (32 - f)::[],rfl,_,k+1+1,.mk 9 0 0 0 (C7 (ts.drop (k+1))).text none 0 [],[],⟨hq,by omega⟩,rfl,⟨rfl,a1b _ _ _ _ _ _ _,a2u (by omega) (by omega) (by omega) (by omega) (htn (k+1))⟩,rfl⟩;have d13:=X9 c13;rw[if_neg d13] at hq;refine kQ0 [0,2,3] ?_;refine xG (a3d b6k rfl rfl rfl Eb (by exact rfl)) ?_;refine kQ1 [0,2,3,38,39] ?_
 refine B0 [0,2,3,38] rfl (fun μ F' h'=>∃ i:Nat,(i<=3/\∀ j < i,t≠C6 (K4 ((j+1:Nat):Int)))/\3 - i=μ/\F'=[(39,.int .i64 i)]/\.pt b3 (.cells (B2 t).toArray 120 (0,0))::.pt b2 (.cells (exE (.mk 0 0 0 0 [] none 0 [])).toArray 29 (0,0))::H0 b a c ts k (32 - f)::h=h') (3 - 0) [(39,.int .i64 0)] (h0:=.pt b3 (.cells (B2 t).toArray 120 (0,0))::.pt b2 (.cells (exE (.mk 0 0 0 0 [] none 0 [])).toArray 29 (0,0))::H0 b a c ts k (32 - f)::h) ?_ Sb ⟨0,⟨by omega,fun j hj=>absurd hj (Nat.not_lt_zero j)⟩,rfl,rfl,rfl⟩ ?_;exact Su;rintro _ _ _ ⟨i,⟨hi,hJ⟩,rfl,rfl,rfl⟩;refine B1 rfl ?_;refine kQ1 [0,2,3,38,39,40] ?_;refine wc (fun c40=>?_) fun c40=>?_
 replace c40:=dT c40;have hvi:([.int .u8 1,.int .u8 2,.int .u8 3]:List Value)[i]?=some (.int .u8 ((i+1:Nat):Int)):=by
  rcases(by omega:i=0\/i=1\/i=2) with rfl | rfl | rfl <;> rfl
 have hpl:=b0u ((i+1:Nat):Int);refine kQ0 [0,2,3,38,39] ?_;refine xG (b2O b6k c1w rfl rfl Et Et rfl (by omega) hvi) ?_;refine kQ1 [0,2,3,5,38,39] ?_;refine dS [2,3] (.op 0 (.op 1 (.op 2 (.op 3 .nil)))) [4] D6 ?_;refine kA2 ?_;refine yf rfl (E1 Et) (fun fr=>a9C _ _ _) ?_;refine yf rfl (E1 Et) (fun fr=>U5 hg (K4 ((i+1:Nat):Int)) (by omega) _) ?_;refine SR.nil rfl rfl ?_;refine xG (a0f H2 (by kernel_rfl) (by kernel_rfl) Et Et rfl) ?_;refine kQ0 [0,2,3,5,38,39,46] ?_;refine wc (fun c46=>?_) fun c46=>?_
 have d46:=X8 c46;have hc3:=b6O (by omega) hJ d46;rw[hc3,if_pos (by omega)] at hq;have hkl2:k < ts.length:=R2 (by rw[<- ht,d46];rcases U4 (K4 ((i+1:Nat):Int)) with h | h <;> rw[h] <;> decide);refine kQ8 [0,2,5] ?_;refine kA2 ?_;refine pD (H0 b a c ts (k+1:Nat) (32 - f)) ?_;refine A0 Ef (E1 Et) (hO _ (k+1) (hk.mono Sb) (by omega)) Lb (fun v hv hx=>?_) fun v56 h56 hr56=>?_
 ·obtain⟨e,k2,o2,hres,rfl,rfl⟩:=hx
  rw[hres] at hq;exact a1d (P:=Tryz.prog) (fn:=Tryz.f205) (H0 b a c ts k2 o2::h) Vl Sb ⟨_,_,_,hq,rfl,rfl⟩
 obtain⟨hp56,rfl,x,k2,tx,bl,⟨hres,hk2⟩,rfl,⟨hst,hT,hW⟩,rfl⟩:=hr56;refine WL.perm (h':=H0 b a c ts k2 (32 - f)::.pt b3 _::.pt b2 _::(bl++h)) ((V2 bl [_,_] h).cons _) ?_;rw[hres] at hq;refine xY Y9 Eb fun b57=>?_
 refine kA2 ?_;refine pD (H0 b a c ts k2 (32 - f)) ?_;refine kQ0 [2] ?_;refine xT (H0 b a c ts k2 (32 - f)::.pt b57 (.cells (exE tx).toArray 29 (0,0))::(bl++h)) (h1:=cA a1t) ?_;exact⟨H0 b a c ts k2 (32 - f)::.pt b57 (.cells (exE tx).toArray 29 (0,0))::bl,rfl,_,k2,.mk 8 0 ((i+1:Nat):Int) 0 [] (some ⟨b57,0,none⟩) 1 [tx],.pt b57 (.cells (exE tx).toArray 29 (0,0))::bl,⟨hq,hk2⟩,rfl,⟨by rw[<- hst];rfl,b06 hT b57 _ _ _ _ _,b21 hW (by omega) (by omega) (by omega) (by omega) (Nat.zero_le _)⟩,rfl⟩;have d46:=X9 c46;have hJ2:∀ j < i+1,t≠C6 (K4 ((j+1:Nat):Int)):=fun j hj=>by
  rcases Nat.lt_succ_iff_lt_or_eq.1 hj with h | rfl
  ·exact hJ j h
  ·exact d46
 refine kQ0 [0,2,3,38,39] ?_;refine kA2 ?_;refine WL.nil (A4 (3 - (i+1)) [(39,.int .i64 (i+1))] (h'':=.pt b3 (.cells (B2 t).toArray 120 (0,0))::.pt b2 (.cells (exE (.mk 0 0 0 0 [] none 0 [])).toArray 29 (0,0))::H0 b a c ts k (32 - f)::h) (by omega) ?_ Su Sb ⟨i+1,⟨by omega,hJ2⟩,rfl,rfl,rfl⟩);exact Su;replace c40:=dF c40;have hc3:=b8r (t:=t) (fun j hj=>hJ j (by omega));rw[hc3,if_neg (by omega)] at hq;refine kQ0 [0,2] ?_;refine kA1 ?_;refine pD (H0 b a c ts k (32 - f)) ?_;refine xg (E3 Et Ek Ek) (b7E hg b a c ts k (32 - f) 23 26 4 t rfl ht (by decide) (by decide) _ (hk.mono Sb) hkl) ?_;rintro _ _ ⟨rfl,rfl⟩;refine kQ1 [0,2,6] ?_;refine kQ2 [0,2,6,63] ?_;refine wc (fun c63=>?_) fun c63=>?_
 replace c63:=a1i c63;have d63:opF t 4 23≠0:=by omega
 rw[if_pos d63] at hq;rw[if_neg d63];have hkl2:k < ts.length:=R2 (by rw[<- ht];exact a7n d63);have hob:=b2m t 4 23 d63;refine kA2 ?_;refine A0 Ef (E1 Et) (hO _ (k+1) (hk.mono Sb) (by omega)) Lb (fun v hv hx=>?_) fun v66 h66 hr66=>?_
 ·obtain⟨e,k2,o2,hres,rfl,rfl⟩:=hx
  rw[hres] at hq;exact a1d (P:=Tryz.prog) (fn:=Tryz.f205) (H0 b a c ts k2 o2::h) Vl Sb ⟨_,_,_,hq,rfl,rfl⟩
 obtain⟨hp66,rfl,x,k2,tx,bl,⟨hres,hk2⟩,rfl,⟨hst,hT,hW⟩,rfl⟩:=hr66;refine WL.perm (h':=H0 b a c ts k2 (32 - f)::.pt b3 _::.pt b2 _::(bl++h)) ((V2 bl [_,_] h).cons _) ?_;rw[hres] at hq;refine xY Y9 Eb fun b67=>?_
 refine kA2 ?_;refine pD (H0 b a c ts k2 (32 - f)) ?_;refine kQ0 [2] ?_;refine xT (H0 b a c ts k2 (32 - f)::.pt b67 (.cells (exE tx).toArray 29 (0,0))::(bl++h)) (h1:=cA a1t) ?_;exact⟨H0 b a c ts k2 (32 - f)::.pt b67 (.cells (exE tx).toArray 29 (0,0))::bl,rfl,_,k2,.mk 6 (opF t 4 23) 0 0 [] (some ⟨b67,0,none⟩) 1 [tx],.pt b67 (.cells (exE tx).toArray 29 (0,0))::bl,⟨hq,hk2⟩,rfl,⟨by rw[<- hst];rfl,b06 hT b67 _ _ _ _ _,b21 hW (by omega) (by omega) (by omega) (by omega) (Nat.zero_le _)⟩,rfl⟩;replace c63:=a0U c63;have d63:opF t 4 23=0:=by omega
 rw[if_neg (by omega)] at hq;rw[if_pos d63];refine kQ0 [0,2] ?_;refine kA1 ?_;refine A0 Ef (E1 Et) (hO _ k (hk.mono Sb) hkl) Lb (fun v hv hx=>?_) fun v70 h70 hr70=>?_
 ·obtain⟨e,k2,o2,hres,rfl,rfl⟩:=hx
  rw[hres] at hq;exact a1d (P:=Tryz.prog) (fn:=Tryz.f205) (H0 b a c ts k2 o2::h) Vl Sb ⟨_,_,_,hq,rfl,rfl⟩
 obtain⟨hp70,rfl,x,k2,tx,bl,⟨hres,hk2⟩,rfl,⟨hst,hT,hW⟩,rfl⟩:=hr70;refine WL.perm (h':=H0 b a c ts k2 (32 - f)::.pt b3 _::.pt b2 _::(bl++h)) ((V2 bl [_,_] h).cons _) ?_;rw[hres] at hq;refine xW fun b7=>?_
 refine kQ1 [0,2,7] ?_;refine kA1 ?_;refine pD (H0 b a c ts k2 (32 - f)) ?_;obtain⟨t2,ht2⟩:∃ t2,t2=C7 (ts.drop k2):=⟨_,rfl⟩;replace hq:=hq.trans (show _=if opF (C7 (ts.drop k2)) 22 1≠0 then unQ (fun b=>sx 7 (opF (C7 (ts.drop k2)) 22 1) 0 0 [] [x,b]) (Q1 (S9 f) (ts.drop k2).tail) else .ok (x,ts.drop k2) from rfl);rw[<- ht2,X0] at hq;refine xg (E3 Et Ek Ek) (b7E hg b a c ts k2 (32 - f) 1 22 22 t2 rfl ht2 (by decide) (by decide) _ (hk.mono Sb) hk2) ?_;rintro _ _ ⟨rfl,rfl⟩;refine kQ1 [0,2,7,8] ?_;refine kQ2 [0,2,7,8,74] ?_;refine wc (fun c74=>?_) fun c74=>?_
 replace c74:=a1i c74;have d74:opF t2 22 1≠0:=by omega
 rw[if_pos d74] at hq;rw[if_neg d74];have hkl4:k2 < ts.length:=R2 (by rw[<- ht2];exact a7n d74);have hob:=b2m t2 22 1 d74;refine jE ?_;refine F2 [3] (.op 0 (.op 1 (.op 2 (.op 3 .nil)))) [4,5,6] _ [_] D6 (fun _ _ _ _ _ h=>h) [0] (by kernel_rfl) ?_;refine kA3 ?_;refine a1e rfl rfl Ef (E1 Et) (fun fr=>hO _ (k2+1) (Tks.mono hk (a1M Sb fr)) (by omega)) Lb (fun fr v hv hx=>?_) fun v78 h78 hr78=>?_
 ·obtain⟨e,k3,o2,hres2,rfl,rfl⟩:=hx
  rw[hres2] at hq;exact a1d (P:=Tryz.prog) (fn:=Tryz.f205) (H0 b a c ts k3 o2::h) Vl (List.Sublist.cons_cons _ (a1M Sb fr)) ⟨_,_,_,hq,rfl,rfl⟩
 obtain⟨y,k3,ty,bl2,⟨hres2,hk3⟩,rfl,⟨hst2,hT2,hW2⟩,rfl⟩:=hr78;rw[hres2] at hq;refine a1G (H:=H0 b a c ts k3 (32 - f)::.pt b7 (.cells (exE tx).toArray 29 (0,0))::.pt b3 (.cells (B2 t).toArray 120 (0,0))::.pt b2 (.cells (exE (.mk 0 0 0 0 [] none 0 [])).toArray 29 (0,0))::((bl2++bl)++h)) rfl (by rw[List.append_assoc];exact(V2 bl2 [_,_,_] (bl++h)).cons _) ?_;refine xY Y9 Eb fun b79=>?_
 refine kA2 ?_;refine pD (H0 b a c ts k3 (32 - f)) ?_;refine kQ0 [2] ?_;refine xT (H0 b a c ts k3 (32 - f)::.pt b79 (.cells (exE tx++exE ty).toArray 29 (0,0))::((bl2++bl)++h)) (h1:=cA a1t) ?_;exact⟨H0 b a c ts k3 (32 - f)::.pt b79 (.cells (exE tx++exE ty).toArray 29 (0,0))::(bl2++bl),rfl,_,k3,.mk 7 (opF t2 22 1) 0 0 [] (some ⟨b79,0,none⟩) 2 [tx,ty],.pt b79 (.cells (exE tx++exE ty).toArray 29 (0,0))::(bl2++bl),⟨hq,hk3⟩,rfl,⟨by rw[<- hst,<- hst2];rfl,b9B hT hT2 b79 _ _ _ _ _,c1J hW hW2 (by omega) (by omega) (by omega) (by omega) (Nat.zero_le _)⟩,rfl⟩;replace c74:=a0U c74;have d74:opF t2 22 1=0:=by omega
 rw[if_neg (by omega)] at hq;rw[if_pos d74];refine kQ0 [2,7] ?_;refine kQ2 [2] ?_;refine xT (H0 b a c ts k2 (32 - f)::(bl++h)) (h1:=cA a1t) ?_;exact⟨H0 b a c ts k2 (32 - f)::bl,rfl,x,k2,tx,bl,⟨hq,hk2⟩,rfl,⟨hst,hT,hW⟩,rfl⟩
end
theorem b7S {m:View} (hg:Glob m) (b:Nat) (a:Option Addr) (c:Nat) (ts:List Tok) (htn:∀ k,(-2147483648<=(C7 (ts.drop k)).n/\(C7 (ts.drop k)).n<=2147483647)/\(C7 (ts.drop k)).text.length<=140737488355328) :
 ∀ f,f<=32->INS m b a c ts f/\EXP m b a c ts f
 | 0,_=>⟨c3Q b a c ts,exp hg b a c ts (opn hg b a c ts (c3Q b a c ts) htn) fun k=>(htn k).2⟩
 | f+1,hf=>by
  have ih:=b7S hg b a c ts htn f (by omega);have hI:=c4d hg b a c ts (by omega) ih.2;exact⟨hI,exp hg b a c ts (opn hg b a c ts hI htn) fun k=>(htn k).2⟩
end
section
open Go.Eng Go.Xp Go
open Go.Ty (Tok B2 B4 R1)
open Go.Lx (J4)
abbrev ptV (b:Nat):Value:=.pointer (some ⟨b,0,none⟩)
theorem b3w (b0 b1 b2:Nat) (h:List Res) (m:View):a8m Tryz.prog 204 [ptV b0,ptV b1,ptV b2] .returning m h h:=by
 refine a6o Tryz.func204 rfl rfl Tryz.ntmps204 Lb rfl Lb Lb (b1F rfl) rfl ?_;refine kA1 ?_;refine xG (a7k b8M Et rfl) ?_;refine kQ0 [0,1,2,3,8] ?_;refine wc (fun c8=>?_) fun c8=>?_
 cases c8;refine WC.skip (a6r (h2:=h) (.inr rfl) rfl Sb)
abbrev r3 (b0 b1 b2:Nat) (e:Ex) (k n:Int) (h:List Res):List Res:=.pt b0 (.cells (exE e).toArray 29 (0,0))::.pt b1 (.cells [Value.int .i64 k].toArray 3 (0,0))::.pt b2 (.cells [Value.int .i64 n].toArray 47 (0,0))::h
theorem c0z (b0 b1 b2:Nat) (h:List Res) (m:View) (x:Ex) (k n e:Int):a8m Tryz.prog 204 [ptV b0,ptV b1,ptV b2] (.panicking [{ v:=b7h e,recovered:=false }]) m (r3 b0 b1 b2 x k n h) (r3 b0 b1 b2 A2 0 e h):=by
 refine a6o Tryz.func204 rfl rfl Tryz.ntmps204 Lb rfl Lb Lb b1w (a6y _) ?_;refine kA1 ?_;refine xG (a7h b8M Et rfl) ?_;refine kQ0 [0,1,2,3,8] ?_;refine wc (fun c8=>?_) fun c8=>?_
 refine kA1 ?_;refine xG (a2I a98 Et) ?_;refine kA3 ?_;refine xW fun b4=>?_
 refine kQ2 [0,1,2,3,4,5] ?_;refine kQ2 [0,1,2,3,4,15] ?_;refine wc (fun c15=>?_) fun c15=>?_
 cases c15;refine WC.skip (kp [0,1,2,4] ?_);refine jE ?_;refine WC.take (r:=.pt b1 _) De ?_;refine WC.take (r:=.pt b0 _) De ?_;refine F2 [3,4] (.op 0 (.op 1 (.op 2 (.op 3 (.op 4 .nil))))) [5] _ [_,_] D6 (fun _ _ _ _ _ h=>absurd h.1 (by rintro (q | q) <;> cases q)) [] (by kernel_rfl) ?_;refine yG rfl (PO.build a1t rfl rfl rfl EvP.nil rfl) ?_;refine kA2 ?_;refine SR.store rfl rfl rfl Et Et rfl rfl rfl rfl Up ?_;refine SR.store rfl rfl rfl Et Ek rfl rfl rfl rfl Up ?_;refine SR.nil rfl rfl ?_;refine kA1 ?_;refine WL.nil (a6r (h2:=r3 b0 b1 b2 A2 0 e h) (.inr rfl) rfl Sb);cases c8
theorem _root_.Go.Eng.WC.noPan {P:Program} {c:Code} {Q:Exit->Act->World->Prop} {n:Cx} {F:Fm} {h:List Res} {m:View} (k:WC P c (noPan Q) n F h m):WC P c Q n F h m:=
 .mk fun a w ha hs=>wpIn_mono (k.e a w ha hs) fun e _ _ q=>by cases e <;> first | exact q | exact(q:False).elim
theorem a7R {ts:List Tok} {x:Ex} {k:Nat} (h:a0l (S9 32) ts=.ok (x,ts.drop k)) (hk:k<=ts.length):Q0 ts=if M0 x then .ok (x,k) else .error 3:=by
 have h2:a8A ts=.ok (x,ts.drop k):=h;unfold Q0;rw[h2];show(if M0 x then Except.ok (x,ts.length - (ts.drop k).length) else .error 3)=_;rw[List.length_drop,show ts.length - (ts.length - k)=k by omega]
theorem front_ct {m:View} (hg:Glob m) (a:Option Addr) (c:Nat) (ts:List Tok) (h:List Res) (hk:Tks m h a c ts) (htn:∀ k,(-2147483648<=(C7 (ts.drop k)).n/\(C7 (ts.drop k)).n<=2147483647)/\(C7 (ts.drop k)).text.length<=140737488355328) :
 CT Tryz.prog 141 [.slice a ts.length c] h m (fun v _ h'=>(∃ (x:Ex) (k:Nat) (t:Ex) (bl:List Res),(Q0 ts=.ok (x,k)/\k<=ts.length)/\v=.tuple #[exV t,.int .i64 k,.int .i64 0]/\(B8 t=x/\TOk m bl t/\Wf t)/\h'=bl++h) \/
  (∃ e:Int,Q0 ts=.error e/\v=.tuple #[exV A2,.int .i64 0,.int .i64 e]/\h'=h)):=by
 have hE:=(b7S hg · a c ts htn 32 (by omega));refine CT.bodyD Tryz.call141 Tryz.func141 rfl Tryz.ntmps141 Lb rfl ?_;refine j0 ?_;refine xW fun b2=>?_
 refine xW fun b3=>?_
 refine xW fun b4=>?_
 refine wn [0,2,3,4] ?_;refine jE ?_;refine a6J rfl fun ops hG=>?_
 refine WY.po rfl (PO.makeFunc Evs.nil (E3 Et Et Et)) Lb ?_;refine WY.defer rfl Et ?_;refine kp [0,2,3,4] ?_;refine kA2 ?_;refine xX fun b9=>?_
 refine kQ1 [2,3,4,5] ?_;refine kA1 ?_;refine A0 Ef (E1 Et) ((hE b9).2 _ 0 (hk.mono Sb) (by omega)) Lb (fun v hv hx=>?_) fun v11 h11 hr11=>?_
 ·obtain⟨e,k2,o2,hres,rfl,rfl⟩:=hx
  intro a1 w1 ha1 hs1;have hs2:St m (r3 b2 b3 b4 A2 0 0 h) w1:=(hs1.sub (List.sublist_cons_self _ _)).perm ((List.perm_middle (l₁:=[_,_])).trans ((List.Perm.swap _ _ _).cons _));have hfe:Q0 ts=.error e:=by
   have h2:a8A ts=.error e:=hres;unfold Q0;rw[h2]
  exact c3z (P:=Tryz.prog) (fn:=Tryz.f141) (h':=h) rfl Tryz.call204 (c0z b2 b3 b4 h m A2 0 0 e) rfl (I1 a1t rfl rfl rfl Me rfl) (V5 uu3 rfl rfl Me rfl) (V5 b5l rfl rfl Me rfl) Vl Sb (.inr ⟨e,hfe,rfl,rfl⟩) a1 w1 ha1 hs2
 obtain⟨hp11,rfl,x,k2,tx,bl,⟨hres,hk2⟩,rfl,⟨hst,hT,hW⟩,rfl⟩:=hr11;refine WL.perm (h':=H0 b9 a c ts k2 (32 - (32:Nat))::.pt b4 _::.pt b3 _::.pt b2 _::(bl++h)) ((V2 bl [_,_,_] h).cons _) ?_;have hfr:=a7R hres hk2;refine kQ1 [2,3,4,5] ?_;refine kA1 ?_;refine xf (E1 Et) (may_ct hg tx _ (hT.mono ((List.sublist_append_left bl h).trans Sb)) hW) ?_;refine kQ1 [2,3,4,5,14] ?_;refine wc (fun c14=>?_) fun c14=>?_
 have d14:M0 x=false:=by rw[<- hst,P7];simpa using c14
 rw[d14] at hfr;refine kQ4 [2,3,4] ?_;refine WC.ret (c1a (h':=h) (.inl rfl) rfl Tryz.call204 (b3w _ _ _ _ _) rfl (I1 a1t rfl rfl rfl Me rfl) (V5 uu3 rfl rfl Me rfl) (V5 b5l rfl rfl Me rfl) Vl Sb ?_);exact .inr ⟨3,hfr,rfl,rfl⟩;have d14:M0 x=true:=by rw[<- hst,P7];simpa using c14
 rw[d14] at hfr;refine WC.skip (kp [2,3,4,5] ?_);refine jE ?_;refine WC.noPan ?_;refine WC.take (r:=.pt b2 _) De ?_;refine F2 [0,5] (.op 1 (.op 2 (.op 3 (.op 4 (.op 0 (.op 5 .nil)))))) [6,7] _ [_] D6 (fun _ _ _ _ _ h=>h) [] (by kernel_rfl) ?_;refine kA4 ?_;refine b2X rfl rfl (fun fr=>V3 a1t rfl rfl Et (List.mem_append_right _ Me) rfl) Lb ?_;refine SR.store rfl rfl rfl Et Et rfl rfl rfl rfl Up ?_;refine SR.nil rfl rfl ?_;refine kQ2 [2,3,4] ?_;refine WC.ret (c1a (h':=bl++h) (.inl rfl) rfl Tryz.call204 (b3w _ _ _ _ _) rfl (I1 a1t rfl rfl rfl Me rfl) (V5 uu3 rfl rfl Me rfl) (V5 b5l rfl rfl Me rfl) Vl Sb ?_);exact .inl ⟨x,k2,tx,bl,⟨hfr,hk2⟩,rfl,⟨hst,hT,hW⟩,rfl⟩
theorem a8I {m:View} (hg:Glob m) (a:Option Addr) (c:Nat) (ts:List Tok) (h:List Res) (hk:Tks m h a c ts) (htn:∀ t ∈ ts,-2147483648<=t.n/\t.n<=2147483647) :
 CT Tryz.prog 141 [.slice a ts.length c] h m (fun v _ h'=>∃ (t:Ex) (bl:List Res),v=.tuple #[exV t,.int .i64 (Y3 ts:Nat),.int .i64 (a4x ts)]/\(B8 t=a7M ts/\TOk m bl t/\Wf t)/\h'=bl++h):=by
 have hz:∀ k,(-2147483648<=(C7 (ts.drop k)).n/\(C7 (ts.drop k)).n<=2147483647)/\(C7 (ts.drop k)).text.length<=140737488355328:=fun k=>by
  cases hd:ts.drop k with
  | nil=>exact⟨by decide,by decide⟩
  | cons u r=>
   have hu:u ∈ ts:=List.mem_of_mem_drop (by rw[hd];exact List.Mem.head _);rw[a3x];split
   ·exact⟨htn u hu,hk.tx u hu⟩
   ·exact⟨by decide,by decide⟩
 have h1:=front_ct hg a c ts h hk hz;refine⟨h1.enter,fun w hs=>Calls.mono (h1.calls w hs) ?_⟩;rintro e w' ⟨v,m',h',rfl,hle,hst,⟨x,k,t,bl,⟨hf,hk2⟩,rfl,hT,rfl⟩ | ⟨er,hf,rfl,rfl⟩⟩
 ·exact⟨_,m',_,rfl,hle,hst,t,bl,by unfold Y3 a4x;rw[hf],by unfold a7M;rw[hf];exact hT,rfl⟩
 ·exact⟨_,m',_,rfl,hle,hst,A2,[],by unfold Y3 a4x;rw[hf];rfl,by unfold a7M;rw[hf];exact⟨rfl,a1b _ _ _ _ _ _ _,a2u (by omega) (by omega) (by omega) (by omega) (Nat.zero_le _)⟩,rfl⟩
theorem b9J {m:View} {f:FuncId} {e:Ex} {h:List Res} (c:CT Tryz.prog f [exV e] h m (fun v _ h'=>(M0 e=true/\∃ a c,v=.tuple #[.slice a (A9 e).length c,.int .i64 0]/\h'=.row (.slice a (A9 e).length c) 120 4 (A9 e).length (fl B2 (A9 e))::h)\/(M0 e=false/\v=.tuple #[.slice none 0 0,.int .i64 2]/\h'=h))) :
 CT Tryz.prog f [exV e] h m (fun v _ h'=>∃ a c,v=.tuple #[.slice a (D8 e).length c,.int .i64 (a9R e)]/\h'=.row (.slice a (D8 e).length c) 120 4 (D8 e).length (fl B2 (D8 e))::h):=by
 refine⟨c.enter,fun w hs=>Calls.mono (c.calls w hs) ?_⟩;rintro _ w' ⟨v,m',h',rfl,hle,hst,⟨hm,a,c,rfl,rfl⟩ | ⟨hm,rfl,rfl⟩⟩
 ·exact⟨_,m',_,rfl,hle,hst,a,c,by unfold D8 a9R;rw[hm];rfl,by unfold D8;rw[hm];rfl⟩
 ·exact⟨_,m',_,rfl,hle,hst.addNil 120 4,none,0,by unfold D8 a9R;rw[hm];rfl,by unfold D8;rw[hm];rfl⟩
theorem b9D {m:View} (hg:Glob m) (e:Ex) (h:List Res) (hT:TOk m h e) (hW:Wf e):CT Tryz.prog 223 [exV e] h m (fun v _ h'=>∃ a c,v=.tuple #[.slice a (D8 e).length c,.int .i64 (a9R e)]/\h'=.row (.slice a (D8 e).length c) 120 4 (D8 e).length (fl B2 (D8 e))::h):=b9J (tokens_ct hg e h hT hW)
end
end Go.Proofs.YtmhkeomphdddaaaGreatDoor
namespace Go.Proofs.YtmhkeomphdddaaaGreatDoor.Ty9
section
open Go.Eng Go.Lx Go.Ty
def W3 (h:List Res) (k:Int):Value->View->List Res->Prop:=A3 h (.tuple #[str (wordS k).1,.int .i64 (wordS k).2.1,.bool (wordS k).2.2])
theorem a7e {i:Nat} {p:Pm} (hp:prims[i]?=some p):((fl b8f prims).drop (i * 3)).take 3=b8f p:=by
 match i,hp with
 | 0,hp=>cases hp;rfl
 | 1,hp=>cases hp;rfl
 | 2,hp=>cases hp;rfl
theorem a6x (k:Int) (h:List Res) (m:View) (hg:Glob m):CT Tryz.prog 246 [.int .u8 k] h m (W3 h k):=by
 refine CT.body Tryz.call246 Tryz.func246 rfl Tryz.ntmps246 Lb rfl ?_;refine kQ3 [0] ?_;refine xG (H7 (vs:=fl b8f prims) a5N rfl rfl Ev.global rfl (fun j v hj=>by rw[Nat.zero_add];exact hg.prim j v hj)) ?_;refine kQ1 [0,7,8] ?_;refine B0 [0,7] rfl (fun μ F' h'=>∃ i:Nat,(i<=3/\wordS k=wordIn k (prims.drop i))/\3 - i=μ/\F'=[(8,.int .i64 i)]/\h=h') (3 - 0) [(8,.int .i64 0)] (h0:=h) ?_ Sb ⟨0,⟨by omega,rfl⟩,rfl,rfl,rfl⟩ ?_;exact Su;rintro _ _ _ ⟨i,⟨hk,hJ⟩,rfl,rfl,rfl⟩;refine B1 rfl ?_;refine kQ1 [0,7,8,9] ?_;refine wc (fun c9=>?_) fun c9=>?_
 replace c9:=dT c9;obtain⟨p,hp⟩:=A5 (l:=prims) (k:=i) (by show i < 3;omega);rw[b0H k hp] at hJ;refine kQ0 [0,7,8] ?_;refine xG (a5p (sz:=3) (q:=i) a5N b1L rfl rfl Et Et rfl (by omega) (a7e hp)) ?_;refine xW fun b6=>?_
 refine kQ1 [0,6,7,8] ?_;refine kQ4 [0,6,7,8,14] ?_;refine wc (fun c14=>?_) fun c14=>?_
 rw[c14] at hJ;refine jE ?_;refine dS [] (.op 0 (.op 1 (.op 2 (.op 3 (.op 4 .nil))))) [5,6] D6 ?_;refine kA4 ?_;refine yG rfl (PO.assign Et) ?_;refine SR.nil rfl rfl ?_;refine kQ2 [2,3,4] ?_;refine WC.ret (a8e (h':=h) (.inl rfl) rfl (RV.tmp rfl) (RV.tmp rfl) (RV.tmp rfl) Vl Sb ?_);exact⟨by rw[hJ];rfl,rfl⟩;rw[c14] at hJ;refine kQ0 [0,7,8] ?_;refine kA2 ?_;refine WL.nil (A4 (3 - (i+1)) [(8,.int .i64 (i+1))] (h'':=h) (by omega) ?_ Su Sb ⟨i+1,⟨by omega,by simpa using hJ⟩,rfl,rfl,rfl⟩);exact Su;replace c9:=dF c9;rw[List.drop_eq_nil_of_le (by show 3<=i;omega)] at hJ;refine kQ0 [] ?_;refine kQ3 [2,3,4] ?_;refine WC.ret (a8e (h':=h) (.inl rfl) rfl (RV.tmp rfl) (RV.tmp rfl) (RV.tmp rfl) Vl Sb ?_);exact⟨by rw[hJ];rfl,rfl⟩
theorem a1Z (k:Int) (h:List Res) (m:View) (hg:Glob m):CT Tryz.prog 206 [.int .u8 k] h m (A3 h (.bool (is k))):=by
 refine CT.body Tryz.call206 Tryz.func206 rfl Tryz.ntmps206 Lb rfl ?_;refine kQ1 [0] ?_;refine kA1 ?_;refine xf (E1 Et) (a6x _ _ _ hg) ?_;refine kQ7 [5] ?_;refine kQ2 [2] ?_;refine wT h ?_;exact⟨rfl,rfl⟩
theorem may_ct (t:Ty) (h:List Res) (m:View) (hg:Glob m) (hs:t.proto.length<=9223372036854775807):CT Tryz.prog 142 [tyV t] h m (A3 h (.bool (may t))):=by
 refine CT.body Tryz.call142 Tryz.func142 rfl Tryz.ntmps142 Lb rfl ?_;refine j0 ?_;refine xX fun b1=>?_
 refine kQ1 [1] ?_;refine kQ9 [1,3] ?_;refine wc (fun c3=>?_) fun c3=>?_
 have d3:far t=true:=c3;refine kQ1 [2] ?_;refine wT h ?_;exact⟨by unfold may;rw[d3];rfl,rfl⟩;have d3:far t=false:=c3;refine kA2 ?_;refine xf (E1 Et) (a1Z _ _ _ hg) ?_;refine kQ1 [1,12] ?_;refine wc (fun c12=>?_) fun c12=>?_
 refine kA6 ?_;refine zG (fun hc=>M6 (Eg hc) Ek) ?_;refine kQ2 [2] ?_;refine wT h ?_;exact⟨by unfold may;rw[d3,c12];rfl,rfl⟩;refine kQ4 [1,24] ?_;refine wc (fun c24=>?_) fun c24=>?_
 refine kA2 ?_;refine xG (a0f a9m (by kernel_rfl) (by kernel_rfl) Et Et rfl) ?_;refine kQ1 [2] ?_;refine wT h ?_;exact⟨by unfold may;rw[d3,c12,c24];rfl,rfl⟩;refine kQ4 [1,31] ?_;refine wc (fun c31=>?_) fun c31=>?_
 refine kA2 ?_;refine xf (E1 Et) (Z6 _ _ _ hg (by assumption)) ?_;refine kQ1 [2] ?_;refine wT h ?_;exact⟨by unfold may;rw[d3,c12,c24,c31];rfl,rfl⟩;refine kQ0 [1] ?_;refine kA2 ?_;refine xf (E1 Et) (a1Z _ _ _ hg) ?_;refine kA3 ?_;refine zG (fun hc=>M6 (Eg hc) Ek) ?_;refine kQ2 [2] ?_;refine wT h ?_;exact⟨by unfold may;rw[d3,c12,c24,c31];rfl,rfl⟩
theorem b4r (k:Int) (h:List Res) (m:View) (hg:Glob m):CT Tryz.prog 240 [.int .u8 k] h m (A3 h (.bool (!is k))):=by
 refine CT.body Tryz.call240 Tryz.func240 rfl Tryz.ntmps240 Lb rfl ?_;refine kQ1 [0] ?_;refine kA1 ?_;refine xf (E1 Et) (a1Z _ _ _ hg) ?_;refine kQ2 [2] ?_;refine wT h ?_;exact⟨rfl,rfl⟩
theorem c0I (q:FuncId) (pr:Int->Bool) (a:Option Addr) (k c:Nat) (l:List Int) (h:List Res) (m:View) (hq:∀ x,CT Tryz.prog q [.int .u8 x] h m (A3 h (.bool (pr x)))) (hs:Rd m h a k c 1 (fl L7 l)) :
 CT Tryz.prog 254 [.slice a k c,.func (.func q) #[] #[]] h m (A3 h (.int .i64 (idxF pr l 0))):=by
 have hl:=hs.lenF D3 (by decide);have hmx:=hs.mx;have hle:=hs.le;refine CT.body Tryz.call254 Tryz.func254 rfl Tryz.ntmps254 Lb rfl ?_;refine kQ1 [0,1] ?_;refine kQ3 [0,1,7,8] ?_;refine B0 [0,1,7] rfl (fun μ F' h'=>∃ j:Nat,(j<=k/\idxF pr l 0=idxF pr (l.drop j) j)/\k - j=μ/\F'=[(8,.int .i64 j)]/\h=h') (k - 0) [(8,.int .i64 0)] (h0:=h) ?_ Sb ⟨0,⟨by omega,rfl⟩,rfl,rfl,rfl⟩ ?_;exact Su;rintro _ _ _ ⟨j,⟨hk,hJ⟩,rfl,rfl,rfl⟩;refine B1 rfl ?_;refine kQ1 [0,1,7,8,9] ?_;refine wc (fun c9=>?_) fun c9=>?_
 replace c9:=dT c9;obtain⟨x,hx⟩:=A5 (l:=l) (k:=j) (by omega);rw[idxF_drop pr hx] at hJ;refine kQ0 [0,1,7,8] ?_;refine kQ2 [0,1,5,7,8] ?_;refine kA5 ?_;refine M4 (Ev.tmp rfl) (E1 (Ev.tmp rfl)) (hq x) Lb ?_;refine kQ0 [0,1,5,7,8,16] ?_;refine wc (fun c16=>?_) fun c16=>?_
 rw[c16] at hJ;refine kQ2 [4] ?_;refine wT h ?_;exact⟨by rw[hJ];rfl,rfl⟩;rw[c16] at hJ;refine kQ0 [0,1,7,8] ?_;refine kA2 ?_;refine WL.nil (A4 (k - (j+1)) [(8,.int .i64 (j+1))] (h'':=h) (by omega) ?_ Su Sb ⟨j+1,⟨by omega,by simpa using hJ⟩,rfl,rfl,rfl⟩);exact Su;replace c9:=dF c9;rw[List.drop_eq_nil_of_le (by omega)] at hJ;refine kQ0 [] ?_;refine kQ1 [4] ?_;refine wT h ?_;exact⟨by rw[hJ];rfl,rfl⟩
theorem b94 (q:FuncId) (pr:Int->Bool) (a:Option Addr) (k c:Nat) (l:List Int) (h:List Res) (m:View) (hq:∀ x,CT Tryz.prog q [.int .u8 x] h m (A3 h (.bool (pr x)))) (hs:Rd m h a k c 1 (fl L7 l)) :
 CT Tryz.prog 239 [.slice a k c,.func (.func q) #[] #[]] h m (A3 h (.bool (l.any pr))):=by
 refine CT.body Tryz.call239 Tryz.func239 rfl Tryz.ntmps239 Lb rfl ?_;refine kQ1 [0,1] ?_;refine kA2 ?_;refine xf (E2 Et Et) (c0I q pr _ _ _ l _ _ hq hs) ?_;refine kQ2 [4] ?_;refine wT h ?_;exact⟨congrArg Value.bool (idxF_any pr l 0 (by decide)),rfl⟩
theorem b08 (least:Int) (a:Option Addr) (k c:Nat) (l:List Int) (h:List Res) (m:View) (hg:Glob m) (hs:Rd m h a k c 1 (fl L7 l)) :
 CT Tryz.prog 199 [.slice a k c,.int .i64 least] h m (A3 h (.bool (a6Q l least))):=by
 have hl:=hs.lenF D3 (by decide);subst hl;refine CT.body Tryz.call199 Tryz.func199 rfl Tryz.ntmps199 Lb rfl ?_;refine kQ1 [0,1] ?_;refine c4x ?_;refine A7 (GU.t rfl rfl) (fun hc=>⟨Ef,(E2 (Eg hc) Ef),b94 240 (fun k=>!is k) _ _ _ l _ _ (fun x=>b4r x _ _ hg) hs⟩) Lb ?_;refine kQ3 [4] ?_;refine wT h ?_;exact⟨rfl,rfl⟩
theorem a5Q (s1 s2:Option Addr) (n1 c1 n2 c2:Nat) (xs ys:List _) (h:List Res) (m:View) (h1:Rd m h s1 n1 c1 1 (fl L7 xs)) (h2:Rd m h s2 n2 c2 1 (fl L7 ys)) :
 CT Tryz.prog 175 [.slice s1 n1 c1,.slice s2 n2 c2] h m (A3 h (.bool (eqL eqI xs ys))):=by
 have l1:=h1.lenF D3 (by decide);have l2:=h2.lenF D3 (by decide);have m1:=h1.mx;have m2:=h2.mx;have k1:=h1.le;have k2:=h2.le;refine CT.body Tryz.call175 Tryz.func175 rfl Tryz.ntmps175 Lb rfl ?_;refine kQ1 [0,1] ?_;refine kQ5 [0,1,10] ?_;refine wc (fun c10=>?_) fun c10=>?_
 replace c10:=a1i c10;refine kQ1 [4] ?_;refine wT h ?_;exact⟨by rw[P3 _ _ _ (by omega)],rfl⟩;replace c10:=a0U c10;refine kQ0 [0,1] ?_;refine kQ1 [0,1,5] ?_;refine B0 [0,1] rfl (fun μ F' h'=>∃ k:Nat,(k<=n1/\eqL eqI xs ys=eqL eqI (xs.drop k) (ys.drop k))/\n1 - k=μ/\F'=[(5,.int .i64 k)]/\h=h') (n1 - 0) [(5,.int .i64 0)] (h0:=h) ?_ Sb ⟨0,⟨by omega,by simp⟩,rfl,rfl,rfl⟩ ?_;exact Su;rintro _ _ _ ⟨k,⟨hk,hJ⟩,rfl,rfl,rfl⟩;refine B1 rfl ?_;refine kQ4 [0,1,5,14] ?_;refine wc (fun c14=>?_) fun c14=>?_
 replace c14:=dT c14;obtain⟨x,hx⟩:=A5 (l:=xs) (k:=k) (by omega);obtain⟨y,hy⟩:=A5 (l:=ys) (k:=k) (by omega);rw[N9 _ hx hy] at hJ;refine kQ0 [0,1,5] ?_;refine dS [] (.op 0 (.op 1 (.op 2 (.op 3 (.op 4 (.op 5 (.op 6 (.op 7 .nil)))))))) [8] D6 ?_;refine kA8 ?_;refine SR.nil rfl rfl ?_;refine kQ1 [0,1,5,25] ?_;refine wc (fun c25=>?_) fun c25=>?_
 refine kQ1 [4] ?_;refine wT h ?_;exact⟨by rw[hJ,a1X c25];rfl,rfl⟩;rw[a1Y c25,Bool.true_and] at hJ;refine kQ0 [0,1,5] ?_;refine kA3 ?_;refine WL.nil (A4 (n1 - (k+1)) [(5,.int .i64 (k+1))] (h'':=h) (by omega) ?_ Su Sb ⟨k+1,⟨by omega,hJ⟩,rfl,rfl,rfl⟩);exact Su;replace c14:=dF c14;refine kQ0 [] ?_;refine kQ1 [4] ?_;refine wT h ?_;exact⟨by rw[hJ,List.drop_eq_nil_of_le (by omega),List.drop_eq_nil_of_le (by omega)];rfl,rfl⟩
theorem a9v (w v:Vr) (b:Nat) (h:List Res) (m:View) (hb:Res.pt b (.cells (encV v).toArray 201 (0,0)) ∈ h) :
 CT Tryz.prog 201 [.agg (encV w).toArray,.pointer (some ⟨b,0,none⟩)] h m (A3 h (.bool (w.tag==v.tag))):=by
 refine CT.body Tryz.call201 Tryz.func201 rfl Tryz.ntmps201 Lb rfl ?_;refine j0 ?_;refine xX fun b2=>?_
 refine kQ1 [1,2] ?_;refine kA3 ?_;refine xG (D0 uu9 rfl Et (List.Mem.tail _ hb) rfl) ?_;refine xG (M6 Et Et) ?_;refine kQ1 [3] ?_;refine wT h ?_;exact⟨rfl,rfl⟩
theorem b8X (q:FuncId) (pr:Vr->Bool) (cap:List Value) (a:Option Addr) (k c:Nat) (l:List Vr) (h:List Res) (m:View) (hq:∀ x,x ∈ l->CT Tryz.prog q ([.agg (encV x).toArray]++cap) h m (A3 h (.bool (pr x)))) (hs:Rd m h a k c 2 (fl encV l)) :
 CT Tryz.prog 241 [.slice a k c,.func (.func q) #[] cap.toArray] h m (A3 h (.int .i64 (idxF pr l 0))):=by
 have hl:=hs.lenF D7 (by decide);have hmx:=hs.mx;have hle:=hs.le;refine CT.body Tryz.call241 Tryz.func241 rfl Tryz.ntmps241 Lb rfl ?_;refine kQ1 [0,1] ?_;refine kQ3 [0,1,7,8] ?_;refine B0 [0,1,7] rfl (fun μ F' h'=>∃ j:Nat,(j<=k/\idxF pr l 0=idxF pr (l.drop j) j)/\k - j=μ/\F'=[(8,.int .i64 j)]/\h=h') (k - 0) [(8,.int .i64 0)] (h0:=h) ?_ Sb ⟨0,⟨by omega,rfl⟩,rfl,rfl,rfl⟩ ?_;exact Su;rintro _ _ _ ⟨j,⟨hk,hJ⟩,rfl,rfl,rfl⟩;refine B1 rfl ?_;refine kQ1 [0,1,7,8,9] ?_;refine wc (fun c9=>?_) fun c9=>?_
 replace c9:=dT c9;obtain⟨x,hx⟩:=A5 (l:=l) (k:=j) (by omega);rw[idxF_drop pr hx] at hJ;refine kQ0 [0,1,7,8] ?_;refine kQ2 [0,1,5,7,8] ?_;refine kA5 ?_;refine M4 (Ev.tmp rfl) (E1 (Ev.tmp rfl)) (hq x (List.mem_of_getElem? hx)) Lb ?_;refine kQ0 [0,1,5,7,8,16] ?_;refine wc (fun c16=>?_) fun c16=>?_
 rw[c16] at hJ;refine kQ2 [4] ?_;refine wT h ?_;exact⟨by rw[hJ];rfl,rfl⟩;rw[c16] at hJ;refine kQ0 [0,1,7,8] ?_;refine kA2 ?_;refine WL.nil (A4 (k - (j+1)) [(8,.int .i64 (j+1))] (h'':=h) (by omega) ?_ Su Sb ⟨j+1,⟨by omega,by simpa using hJ⟩,rfl,rfl,rfl⟩);exact Su;replace c9:=dF c9;rw[List.drop_eq_nil_of_le (by omega)] at hJ;refine kQ0 [] ?_;refine kQ1 [4] ?_;refine wT h ?_;exact⟨by rw[hJ];rfl,rfl⟩
theorem c0n (q:FuncId) (pr:Vr->Bool) (cap:List Value) (a:Option Addr) (k c:Nat) (l:List Vr) (h:List Res) (m:View) (hq:∀ x,x ∈ l->CT Tryz.prog q ([.agg (encV x).toArray]++cap) h m (A3 h (.bool (pr x)))) (hs:Rd m h a k c 2 (fl encV l)) :
 CT Tryz.prog 200 [.slice a k c,.func (.func q) #[] cap.toArray] h m (A3 h (.bool (l.any pr))):=by
 refine CT.body Tryz.call200 Tryz.func200 rfl Tryz.ntmps200 Lb rfl ?_;refine kQ1 [0,1] ?_;refine kA2 ?_;refine xf (E2 Et Et) (b8X q pr cap _ _ _ l _ _ hq hs) ?_;refine kQ2 [4] ?_;refine wT h ?_;exact⟨congrArg Value.bool (idxF_any pr l 0 (by decide)),rfl⟩
theorem mayProto_ct (cs:Bool) (a:Option Addr) (k c:Nat) (l:List Vr) (h:List Res) (m:View) (hg:Glob m) (hp:PrOk m h a k c l) :
 CT Tryz.prog 137 [prV cs a k c] h m (A3 h (.bool (mayPr cs l))):=by
 obtain⟨hs,hv,ht⟩:=hp;have hl:=hs.lenF D7 (by decide);subst hl;have hmx:=hs.mx;have hle:=hs.le;refine CT.body Tryz.call137 Tryz.func137 rfl Tryz.ntmps137 Lb rfl ?_;refine j0 ?_;refine xX fun b1=>?_
 refine kQ1 [1] ?_;refine kQ3 [1,7] ?_;refine wc (fun c7=>?_) fun c7=>?_
 have hd:=b3Y (l:=l);refine kA7 ?_;refine F6 (GU.t rfl rfl) (fun hc=>G1 a1Q.und a1Q.size a1Q.posz (Eg hc) Ek Rr rfl (q:=0) (by simp at hc;omega)) Lb ?_;refine zG (fun hc=>H4 b1N rfl (Nat.ne_of_beq_eq_false rfl) D7 (Nat.succ_pos _) Rr (hd hc) (Eg hc)) ?_;refine zG (fun hc=>H5 uu9 rfl D7 Rr (Eg hc) (hd hc) rfl) ?_;refine zG (fun hc=>M6 (Eg hc) Ek) ?_;refine kA4 ?_;refine F6 (GU.t rfl rfl) (fun hc=>G1 a1Q.und a1Q.size a1Q.posz (Eg hc) Ek Rr rfl (q:=0) (by simp at hc;omega)) Lb ?_;refine zG (fun hc=>H4 b1N rfl (Nat.ne_of_beq_eq_false rfl) D7 (Nat.succ_pos _) Rr (hd (b7W hc)) (Eg hc)) ?_;refine zG (fun hc=>H5 b3A rfl D7 Rr (Eg hc) (hd (b7W hc)) rfl) ?_;refine A7 (GU.t rfl rfl) (fun hc=>⟨Ef,(E2 (Eg hc) Ek),b08 1 _ _ _ (hdV l).items _ _ hg ((hv _ (List.mem_of_getElem? (hd (b7W hc)))).rd.mono Vl Sb)⟩) Lb ?_;refine kQ2 [2] ?_;refine wT h ?_;exact⟨by unfold mayPr;rw[c7];rfl,rfl⟩;refine kQ0 [1] ?_
 refine b8T [1,37] ?_;refine wc (fun c37=>?_) fun c37=>?_
 refine kQ1 [2] ?_;refine wT h ?_;exact⟨by unfold mayPr;rw[c7,c37];rfl,rfl⟩;refine kQ0 [1] ?_;refine kQ4 [1,39,40,41] ?_;refine B0 [1,39,40] rfl (fun μ F' h'=>∃ j:Nat,(j<=l.length/\mayIn [] l=mayIn (l.take j) (l.drop j))/\l.length - j=μ/\F'=[(41,.int .i64 j)]/\.pt b1 (.cells (prL cs a l.length c).toArray 41 (0,0))::h=h') (l.length - 0) [(41,.int .i64 0)] (h0:=.pt b1 (.cells (prL cs a l.length c).toArray 41 (0,0))::h) ?_ Sb ⟨0,⟨by omega,rfl⟩,rfl,rfl,rfl⟩ ?_;exact Su;rintro _ _ _ ⟨j,⟨hk,hJ⟩,rfl,rfl,rfl⟩;refine B1 rfl ?_;refine kQ1 [1,39,40,41,42] ?_;refine wc (fun c42=>?_) fun c42=>?_
 replace c42:=dT c42;obtain⟨v,hx⟩:=A5 (l:=l) (k:=j) (by omega);rw[b2t hx] at hJ;have hvt:=ht v (List.mem_of_getElem? hx);have hvr:=(hv v (List.mem_of_getElem? hx)).rd;refine kQ0 [1,39,40,41] ?_;refine kA3 ?_;refine xW fun b4=>?_
 refine kQ2 [1,3,4,39,40,41] ?_;refine kA2 ?_;refine xf (E1 Et) (Z6 _ _ _ hg (by assumption)) ?_;refine kA4 ?_;refine A7 (GU.f rfl rfl) (fun hc=>⟨Ef,(E2 (Eg hc) Ek),b08 0 _ _ _ v.items _ _ hg Rr⟩) Lb ?_;refine kA6 ?_;refine F6 (GU.f rfl rfl) (fun hc=>a5t a1Q.und a1Q.size (Eg hc) (Eg hc) rfl (by omega)) Lb ?_;refine zG (fun _=>PO.makeFunc Evs.nil (E1 Et)) ?_;refine A7 (GU.f rfl rfl) (fun hc=>⟨Ef,(E2 (Eg hc) (Eg hc)),c0n 201 (fun w=>w.tag==v.tag) [.pointer (some ⟨b4,0,none⟩)] _ _ _ (l.take j) _ _ (fun x _=>a9v x v b4 _ _ Me) (Rd.takeF D7 (hs.mono Vl Sb) (by omega))⟩) Lb ?_;refine kQ1 [1,39,40,41,63] ?_;refine wc (fun c63=>?_) fun c63=>?_
 have d63:badV (l.take j) v=true:=c63;rw[d63] at hJ;refine kQ1 [2] ?_;refine wT h ?_;exact⟨by unfold mayPr;rw[c7,c37,hJ];rfl,rfl⟩;have d63:badV (l.take j) v=false:=c63;rw[d63] at hJ;refine kQ0 [1,39,40,41] ?_;refine kA2 ?_;refine WL.nil (A4 (l.length - (j+1)) [(41,.int .i64 (j+1))] (h'':=.pt b1 (.cells (prL cs a l.length c).toArray 41 (0,0))::h) (by omega) ?_ Su Sb ⟨j+1,⟨by omega,by simpa using hJ⟩,rfl,rfl,rfl⟩);exact Su;replace c42:=dF c42;rw[List.drop_eq_nil_of_le (by omega)] at hJ;refine kQ0 [] ?_;refine kQ1 [2] ?_;refine wT h ?_;exact⟨by unfold mayPr;rw[c7,c37,hJ];rfl,rfl⟩
end
section
open Go.Eng Go.Lx Go.Ty
def TkR (h:List Res) (b:Nat) (L:List Tok):Value->View->List Res->Prop:=fun v _ h'=>∃ a c,v=.tuple #[]/\h'=.pt b (.cells [Value.slice a L.length c].toArray 121 (0,0))::.row (.slice a L.length c) 120 4 L.length (fl B2 L)::h
theorem a3l (kd:Int) (s:B) (k:Int) (b:Nat) (a:Option Addr) (c:Nat) (L L':List Tok) (h:List Res) (m:View) (hL:L.length<=100) (e:L++[⟨kd,0,s,IntKind.i32.wrap k⟩]=L') :
 CT Tryz.prog 249 [.int .u8 kd,str s,.int .i64 k,.pointer (some ⟨b,0,none⟩)] (.pt b (.cells [Value.slice a L.length c].toArray 121 (0,0))::.row (.slice a L.length c) 120 4 L.length (fl B2 L)::h) m
  (TkR h b L'):=by
 subst e;refine CT.body Tryz.call249 Tryz.func249 rfl Tryz.ntmps249 Lb rfl ?_;refine j0 ?_;refine kR a fun p q r=>?_
 refine kA4 ?_;refine xG (PO.conv uu3 a2o Et) ?_;refine kA1 ?_;refine xY A6 Eb fun b13=>?_
 refine xD A6 (Ev.tmp rfl) (Ev.tmp rfl) rfl (E9 (enc:=B2) _ (⟨kd,0,s,IntKind.i32.wrap k⟩)) fun a14 c14=>?_
 refine kA1 ?_;refine WL.nil (w0 (.pt b (.cells [Value.slice a14 (L.length+1) c14].toArray 121 (0,0))::.row (.slice a14 (L.length+1) c14) 120 4 (L.length+1) (fl B2 (L++[⟨kd,0,s,IntKind.i32.wrap k⟩]))::h) ?_);exact⟨a14,c14,rfl,by rw[List.length_append];rfl⟩
def c4i (h:List Res) (p:List Tok × Int):Value->View->List Res->Prop:=fun v _ h'=>∃ a c,v=.tuple #[.slice a p.1.length c,.int .i64 p.2]/\h'=.row (.slice a p.1.length c) 120 4 p.1.length (fl B2 p.1)::h
theorem tokens_ct (t:Ty) (h:List Res) (m:View) (hg:Glob m) (hs:t.proto.length<=9223372036854775807):CT Tryz.prog 222 [tyV t] h m (c4i h (tokens t)):=by
 refine CT.body Tryz.call222 Tryz.func222 rfl Tryz.ntmps222 Lb rfl ?_;refine j0 ?_;refine xX fun b1=>?_
 refine kQ2 [1] ?_;refine kA1 ?_;refine xf (E1 Et) (may_ct t _ _ hg hs) ?_;refine kQ1 [1,12] ?_;refine wc (fun c12=>?_) fun c12=>?_
 have d12:may t=false:=by simpa using c12
 refine kA1 ?_;refine WL.addNil 120 4 ?_;refine kQ1 [2,3] ?_;refine w2 (.row (.slice none 0 0) 120 4 0 []::h) ?_;exact⟨none,0,by rw[a8D d12];rfl,by rw[a8D d12];rfl⟩;have d12:may t=true:=by simpa using c12
 refine kQ0 [1] ?_;refine xW fun b4=>?_
 refine WL.addNil 120 4 ?_;refine WL.take (r:=.pt b4 (.cells [Value.slice none 0 0].toArray 121 (0,0))) De ?_;refine kQ0 [1,4] ?_;refine xG (PO.makeFunc Evs.nil (E1 Et)) ?_;refine kQ1 [1,4,5] ?_;generalize hD:dimT t=D;have hDl:D.length<=3:=hD ▸ dimT_le t
 refine kP3 [1,4,5,16] ?_;refine H9 KKh [1,4,5] rfl (fun F' h'=>∃ a:Option Addr,∃ c:Nat,(True)/\F'=[]/\.pt b4 (.cells [Value.slice a D.length c].toArray 121 (0,0))::.row (.slice a D.length c) 120 4 D.length (fl B2 D)::.pt b1 (.cells (I4 t).toArray 37 (0,0))::h=h') ?_ ?_;refine jE ?_;refine wc (fun c16=>?_) fun c16=>?_
 refine kA1 ?_;refine F3 (Ev.tmp rfl) (E3 Ek Ek Ek) (a3l 5 lb 0 b4 none 0 [] [C1 lb] _ _ (by decide) rfl) Lb ?_;rintro _ _ ⟨a18,p18,rfl,rfl⟩;refine kQ0 [1,4,5] ?_;refine kA3 ?_;refine F3 (Ev.tmp rfl) (E3 Ek Ek (Ev.tmp rfl)) (a3l 3 [] t.dim b4 a18 p18 [C1 lb] [C1 lb,⟨3,0,[],t.dim⟩] _ _ (by decide) (by rw[b8k d12];rfl)) Lb ?_;rintro _ _ ⟨a22,p22,rfl,rfl⟩;refine kQ0 [1,4,5] ?_;refine kA1 ?_;refine F3 (Ev.tmp rfl) (E3 Ek Ek Ek) (a3l 5 rb 0 b4 a22 p22 [C1 lb,⟨3,0,[],t.dim⟩] D _ _ (by simp) (by rw[<- hD];unfold dimT;rw[c16];rfl)) Lb ?_;rintro _ _ ⟨a24,p24,rfl,rfl⟩;refine WL.nil (C8 [] (h'':=.pt b4 (.cells [Value.slice a24 D.length p24].toArray 121 (0,0))::.row (.slice a24 D.length p24) 120 4 D.length (fl B2 D)::.pt b1 (.cells (I4 t).toArray 37 (0,0))::h) ?_ Su Sb ⟨a24,p24,by trivial,rfl,rfl⟩);exact Su;have e16:D=[]:=by rw[<- hD];unfold dimT;rw[c16];rfl
 refine T9 (h':=.pt b4 (.cells [Value.slice none D.length 0].toArray 121 (0,0))::.row (.slice none D.length 0) 120 4 D.length (fl B2 D)::.pt b1 (.cells (I4 t).toArray 37 (0,0))::h) (by rw[e16];rfl) ?_;refine WC.skip (C8 [] (h'':=.pt b4 (.cells [Value.slice none D.length 0].toArray 121 (0,0))::.row (.slice none D.length 0) 120 4 D.length (fl B2 D)::.pt b1 (.cells (I4 t).toArray 37 (0,0))::h) ?_ Su Sb ⟨none,0,by trivial,rfl,rfl⟩);exact Su;rintro _ _ ⟨a,c,hJ,rfl,rfl⟩;refine B1 rfl ?_;refine j0 ?_;generalize hE:D++chanT t=E;have hEl:E.length<=5:=by rw[<- hE,List.length_append];have:=chanT_le t;omega
 refine kQ3 [1,4,5,6] ?_;refine kP2 [1,4,5,6,28] ?_;refine H9 KKh [1,4,5] rfl (fun F' h'=>∃ a':Option Addr,∃ c':Nat,(True)/\F'=[(6,.int .u8 (a6d t))]/\.pt b4 (.cells [Value.slice a' E.length c'].toArray 121 (0,0))::.row (.slice a' E.length c') 120 4 E.length (fl B2 E)::.pt b1 (.cells (I4 t).toArray 37 (0,0))::h=h') ?_ ?_;refine jE ?_;refine wc (fun c28=>?_) fun c28=>?_
 refine kA1 ?_;refine F3 (Ev.tmp rfl) (E3 Ek Ek Ek) (a3l 2 a1z 0 b4 a c D (D++[a0x a1z]) _ _ (by omega) rfl) Lb ?_;rintro _ _ ⟨a30,p30,rfl,rfl⟩;refine kQ0 [1,4,5] ?_;refine kA1 ?_;refine F3 (Ev.tmp rfl) (E3 Ek Ek Ek) (a3l 2 cOF 0 b4 a30 p30 (D++[a0x a1z]) E _ _ (by simp;omega) (by rw[<- hE];unfold chanT;rw[c28];simp;rfl)) Lb ?_;rintro _ _ ⟨a32,p32,rfl,rfl⟩;refine kQ0 [1,4,5] ?_;refine kA3 ?_;refine WL.nil (C8 [(6,.int .u8 (a6d t))] (h'':=.pt b4 (.cells [Value.slice a32 E.length p32].toArray 121 (0,0))::.row (.slice a32 E.length p32) 120 4 E.length (fl B2 E)::.pt b1 (.cells (I4 t).toArray 37 (0,0))::h) ?_ Su Sb ⟨a32,p32,by trivial,rfl,rfl⟩);refine Sub.consE rfl (congrArg (Value.int .u8) (by unfold a6d;rw[c28];rfl)) ?_;exact Su;have e28:E=D:=by rw[<- hE];unfold chanT;rw[c28];simp
 refine T9 (h':=.pt b4 (.cells [Value.slice a E.length c].toArray 121 (0,0))::.row (.slice a E.length c) 120 4 E.length (fl B2 E)::.pt b1 (.cells (I4 t).toArray 37 (0,0))::h) (by rw[e28]) ?_;refine WC.skip (C8 [(6,.int .u8 (a6d t))] (h'':=.pt b4 (.cells [Value.slice a E.length c].toArray 121 (0,0))::.row (.slice a E.length c) 120 4 E.length (fl B2 E)::.pt b1 (.cells (I4 t).toArray 37 (0,0))::h) ?_ Su Sb ⟨a,c,by trivial,rfl,rfl⟩);refine Sub.consE rfl (congrArg (Value.int .u8) (by unfold a6d;rw[c28];rfl)) ?_;exact Su;rintro _ _ ⟨a',c',hJ,rfl,rfl⟩;refine B1 rfl ?_;refine kA1 ?_;refine xf (E1 Et) (a6x _ _ _ hg) ?_;refine kQ7 [1,4,5,7,9] ?_;refine kQ2 [1,4,5,7,43] ?_;refine wc (fun c43=>?_) fun c43=>?_
 refine kA2 ?_;refine F3 (Ev.tmp rfl) (E3 Ek (Ev.tmp rfl) Ek) (a3l 2 (wordS (a6d t)).1 0 b4 a' c' E (toks t) _ _ (by omega) (by unfold toks;rw[hD,hE];unfold lastT;rw[c43];rfl)) Lb ?_;rintro _ _ ⟨a47,p47,rfl,rfl⟩;refine kQ0 [4] ?_;refine kQ3 [2,3] ?_;refine w2 (.row (.slice a47 (toks t).length p47) 120 4 (toks t).length (fl B2 (toks t))::h) ?_;exact⟨a47,p47,by rw[a07 d12],by rw[a07 d12]⟩;refine kA2 ?_;refine xG (P2 Et Ek) ?_;refine kQ1 [1,4,5,48] ?_;refine wc (fun c48=>?_) fun c48=>?_
 refine kA3 ?_;refine F3 (Ev.tmp rfl) (E3 Ek (Ev.tmp rfl) Ek) (a3l 1 t.proto 0 b4 a' c' E (toks t) _ _ (by omega) (by unfold toks;rw[hD,hE];unfold lastT;rw[c43,c48];rfl)) Lb ?_;rintro _ _ ⟨a55,p55,rfl,rfl⟩;refine kQ0 [4] ?_;refine kQ3 [2,3] ?_;refine w2 (.row (.slice a55 (toks t).length p55) 120 4 (toks t).length (fl B2 (toks t))::h) ?_;exact⟨a55,p55,by rw[a07 d12],by rw[a07 d12]⟩;refine kA1 ?_;refine F3 (Ev.tmp rfl) (E3 Ek Ek Ek) (a3l 2 a2O 0 b4 a' c' E (toks t) _ _ (by omega) (by unfold toks;rw[hD,hE];unfold lastT;rw[c43,c48];rfl)) Lb ?_;rintro _ _ ⟨a42,p42,rfl,rfl⟩;refine kQ0 [4] ?_;refine kQ3 [2,3] ?_;refine w2 (.row (.slice a42 (toks t).length p42) 120 4 (toks t).length (fl B2 (toks t))::h) ?_;exact⟨a42,p42,by rw[a07 d12],by rw[a07 d12]⟩
abbrev FL (b1 b2 b3 b5:Nat) (a:Option Addr) (k c:Nat) (t:Ty) (n:Nat):List Res:=
 [.pt b5 (.cells [Value.func (.func 202) [].toArray [Value.pointer (some ⟨b3,0,none⟩),.pointer (some ⟨b1,0,none⟩)].toArray].toArray 247 (0,0)),
  .pt b3 (.cells [Value.int .i64 n].toArray 3 (0,0)),.pt b2 (.cells (I4 t).toArray 37 (0,0)),.pt b1 (.cells [Value.slice a k c].toArray 121 (0,0))]
theorem P5 (b1 b2 b3 b5:Nat) (a:Option Addr) (k c:Nat) (l:List Tok) (t:Ty) (n:Nat) (kd:Int) (s:B) (h:List Res) (m:View) (hs:Rd m h a k c 4 (fl B2 l)) (hn:n<=k) :
 CT Tryz.prog 202 [.int .u8 kd,str s,.pointer (some ⟨b3,0,none⟩),.pointer (some ⟨b1,0,none⟩)] (FL b1 b2 b3 b5 a k c t n++h) m (A3 (FL b1 b2 b3 b5 a k c t (nx (next l n kd s) n)++h) (.bool (next l n kd s))):=by
 have hl:=hs.lenF B4 (by decide);subst hl;have hmx:=hs.mx;have hle:=hs.le;have hq:n < l.length->l[n]?=some (I2 l n):=a0S;refine CT.body Tryz.call202 Tryz.func202 rfl Tryz.ntmps202 Lb rfl ?_;refine kQ1 [0,1,2,3] ?_;refine kA5 ?_;refine zG (fun _=>pL Z0) ?_;refine zG (fun _=>pL uu3) ?_;refine F6 (GU.f rfl rfl) (fun hc=>G1 A6.und A6.size A6.posz (Eg hc) (Eg hc) Rr rfl (by simp at hc;omega)) Lb ?_;refine F6 (GU.f rfl rfl) (fun hc=>H4 H2 rfl (Nat.ne_of_beq_eq_false rfl) B4 (Nat.succ_pos _) Rr (hq (by simp at hc;omega)) (Eg hc)) Lb ?_;refine F6 (GU.f rfl rfl) (fun hc=>H5 a5P rfl B4 Rr (Eg hc) (hq (by simp at hc;omega)) rfl) Lb ?_;refine kA4 ?_;refine zG (fun _=>pL Z0) ?_;refine zG (fun _=>pL uu3) ?_;refine F6 (GU.f rfl rfl) (fun hc=>G1 A6.und A6.size A6.posz (Eg hc) (Eg hc) Rr rfl (by simp at hc;omega)) Lb ?_
 refine F6 (GU.f rfl rfl) (fun hc=>H4 H2 rfl (Nat.ne_of_beq_eq_false rfl) B4 (Nat.succ_pos _) Rr (hq (by simp at hc;omega)) (Eg hc)) Lb ?_;refine F6 (GU.f rfl rfl) (fun hc=>H5 uu9 rfl B4 Rr (Eg hc) (hq (by simp at hc;omega)) rfl) Lb ?_;refine kA1 ?_;refine zG (fun hc=>P2 (Eg hc) (Eg hc)) ?_;refine kA5 ?_;refine zG (fun _=>pL Z0) ?_;refine zG (fun _=>pL uu3) ?_;refine F6 (X5 rfl rfl) (fun hc=>G1 A6.und A6.size A6.posz (Eg hc) (Eg hc) Rr rfl (by simp at hc;omega)) Lb ?_;refine F6 (X5 rfl rfl) (fun hc=>H4 H2 rfl (Nat.ne_of_beq_eq_false rfl) B4 (Nat.succ_pos _) Rr (hq (by simp at hc;omega)) (Eg hc)) Lb ?_;refine F6 (X5 rfl rfl) (fun hc=>H5 a2o rfl B4 Rr (Eg hc) (hq (by simp at hc;omega)) rfl) Lb ?_;refine kA1 ?_;refine zG (fun hc=>Q4 hc rfl rfl) ?_;refine kQ1 [2,40] ?_;refine wc (fun c40=>?_) fun c40=>?_
 have d:next l n kd s=false:=by unfold next;rw[show a2q l n kd s=true from c40];rfl
 refine kQ1 [6] ?_;refine wT (FL b1 b2 b3 b5 a l.length c t n++h) ?_;rw[d];exact⟨rfl,rfl⟩
 have d:next l n kd s=true:=by unfold next;rw[show a2q l n kd s=false from c40];rfl
 have hlt:=a2D d;refine kQ0 [2] ?_;refine kQ3 [] ?_;refine kQ1 [6] ?_;refine wT (FL b1 b2 b3 b5 a l.length c t (n+1)++h) ?_;rw[d];exact⟨rfl,rfl⟩
theorem b5z (x1 x2 x3 x5:Nat) (a:Option Addr) (k c:Nat) (l:List Tok) (t:Ty) (n:Nat) (h:List Res) (m:View) (hg:Glob m) (hs:Rd m h a k c 4 (fl B2 l)) (hn:n<=k) :
 CT Tryz.prog 203 [.pointer (some ⟨x2,0,none⟩),.pointer (some ⟨x5,0,none⟩)] (FL x1 x2 x3 x5 a k c t n++h) m (A3 (FL x1 x2 x3 x5 a k c (a3K t (named l n)) (nx (nmB l n) n)++h) (.bool (nmB l n))):=by
 refine CT.body Tryz.call203 Tryz.func203 rfl Tryz.ntmps203 Lb rfl ?_;refine kQ1 [0,1] ?_;refine xG (H7 (vs:=fl b8f prims) a5N rfl rfl Ev.global rfl (fun j v hj=>by rw[Nat.zero_add];exact hg.prim j v hj)) ?_;refine kQ1 [0,1,6,7] ?_;refine B0 [0,1,6] rfl (fun μ F' h'=>∃ i:Nat,(i<=3/\named l n=a1P l n (prims.drop i))/\3 - i=μ/\F'=[(7,.int .i64 i)]/\FL x1 x2 x3 x5 a k c t n++h=h') (3 - 0) [(7,.int .i64 0)] (h0:=FL x1 x2 x3 x5 a k c t n++h) ?_ Sb ⟨0,⟨by omega,rfl⟩,rfl,rfl,rfl⟩ ?_;exact Su;rintro _ _ _ ⟨i,⟨hk,hJ⟩,rfl,rfl,rfl⟩;refine B1 rfl ?_;refine kQ1 [0,1,6,7,8] ?_;refine wc (fun c8=>?_) fun c8=>?_
 replace c8:=dT c8;obtain⟨p,hp⟩:=A5 (l:=prims) (k:=i) (by show i < 3;omega);rw[a4E l n hp] at hJ;refine kQ0 [0,1,6,7] ?_;refine xG (a5p (sz:=3) (q:=i) a5N b1L rfl rfl Et Et rfl (by omega) (a7e hp)) ?_;refine xW fun b5=>?_
 refine kQ1 [0,1,5,6,7] ?_;refine kA3 ?_;refine F3 (Ev.tmp rfl) (E2 Ek (Ev.tmp rfl)) (CT.frame (fr:=[_]) (hs:=h) (P5 x1 x2 x3 x5 a k c l t n 2 p.word _ _ (hs.mono Vl (List.sublist_cons_self _ _)) hn)) Lb ?_;rintro _ _ ⟨rfl,rfl⟩;refine kQ0 [0,1,5,6,7,13] ?_;refine wc (fun c13=>?_) fun c13=>?_
 rw[c13] at hJ;rw[c13];refine kQ5 [] ?_;refine kQ1 [3] ?_;refine wT (FL x1 x2 x3 x5 a k c (a3K t (some p.kind)) (n+1)++h) ?_;rw[nmB,hJ];exact⟨rfl,rfl⟩
 rw[c13] at hJ;rw[c13];refine kQ0 [0,1,6,7] ?_;refine kA2 ?_;refine WL.nil (A4 (3 - (i+1)) [(7,.int .i64 (i+1))] (h'':=FL x1 x2 x3 x5 a k c t n++h) (by omega) ?_ Su Sb ⟨i+1,⟨by omega,by simpa using hJ⟩,rfl,rfl,rfl⟩);exact Su;replace c8:=dF c8;rw[List.drop_eq_nil_of_le (by show 3<=i;omega)] at hJ;refine kQ0 [] ?_;refine kQ1 [3] ?_;refine wT (FL x1 x2 x3 x5 a k c t n++h) ?_;rw[nmB,hJ];exact⟨rfl,rfl⟩
theorem b4S (x1 x2 x3 x5:Nat) (a:Option Addr) (k c:Nat) (l:List Tok) (t:Ty) (n:Nat) (h:List Res) (m:View) (hg:Glob m) (hs:Rd m h a k c 4 (fl B2 l)) (hn:n<=k) :
 CT Tryz.prog 203 [.pointer (some ⟨x2,2,none⟩),.pointer (some ⟨x5,0,none⟩)] (FL x1 x2 x3 x5 a k c t n++h) m (A3 (FL x1 x2 x3 x5 a k c (a4I t (named l n)) (nx (nmB l n) n)++h) (.bool (nmB l n))):=by
 refine CT.body Tryz.call203 Tryz.func203 rfl Tryz.ntmps203 Lb rfl ?_;refine kQ1 [0,1] ?_;refine xG (H7 (vs:=fl b8f prims) a5N rfl rfl Ev.global rfl (fun j v hj=>by rw[Nat.zero_add];exact hg.prim j v hj)) ?_;refine kQ1 [0,1,6,7] ?_;refine B0 [0,1,6] rfl (fun μ F' h'=>∃ i:Nat,(i<=3/\named l n=a1P l n (prims.drop i))/\3 - i=μ/\F'=[(7,.int .i64 i)]/\FL x1 x2 x3 x5 a k c t n++h=h') (3 - 0) [(7,.int .i64 0)] (h0:=FL x1 x2 x3 x5 a k c t n++h) ?_ Sb ⟨0,⟨by omega,rfl⟩,rfl,rfl,rfl⟩ ?_;exact Su;rintro _ _ _ ⟨i,⟨hk,hJ⟩,rfl,rfl,rfl⟩;refine B1 rfl ?_;refine kQ1 [0,1,6,7,8] ?_;refine wc (fun c8=>?_) fun c8=>?_
 replace c8:=dT c8;obtain⟨p,hp⟩:=A5 (l:=prims) (k:=i) (by show i < 3;omega);rw[a4E l n hp] at hJ;refine kQ0 [0,1,6,7] ?_;refine xG (a5p (sz:=3) (q:=i) a5N b1L rfl rfl Et Et rfl (by omega) (a7e hp)) ?_;refine xW fun b5=>?_
 refine kQ1 [0,1,5,6,7] ?_;refine kA3 ?_;refine F3 (Ev.tmp rfl) (E2 Ek (Ev.tmp rfl)) (CT.frame (fr:=[_]) (hs:=h) (P5 x1 x2 x3 x5 a k c l t n 2 p.word _ _ (hs.mono Vl (List.sublist_cons_self _ _)) hn)) Lb ?_;rintro _ _ ⟨rfl,rfl⟩;refine kQ0 [0,1,5,6,7,13] ?_;refine wc (fun c13=>?_) fun c13=>?_
 rw[c13] at hJ;rw[c13];refine kQ5 [] ?_;refine kQ1 [3] ?_;refine wT (FL x1 x2 x3 x5 a k c (a4I t (some p.kind)) (n+1)++h) ?_;rw[nmB,hJ];exact⟨rfl,rfl⟩
 rw[c13] at hJ;rw[c13];refine kQ0 [0,1,6,7] ?_;refine kA2 ?_;refine WL.nil (A4 (3 - (i+1)) [(7,.int .i64 (i+1))] (h'':=FL x1 x2 x3 x5 a k c t n++h) (by omega) ?_ Su Sb ⟨i+1,⟨by omega,by simpa using hJ⟩,rfl,rfl,rfl⟩);exact Su;replace c8:=dF c8;rw[List.drop_eq_nil_of_le (by show 3<=i;omega)] at hJ;refine kQ0 [] ?_;refine kQ1 [3] ?_;refine wT (FL x1 x2 x3 x5 a k c t n++h) ?_;rw[nmB,hJ];exact⟨rfl,rfl⟩
theorem front_ct (a:Option Addr) (k c:Nat) (l:List Tok) (h:List Res) (m:View) (hg:Glob m) (hs:Rd m h a k c 4 (fl B2 l)) (hT:TkOk l) :
 CT Tryz.prog 140 [.slice a k c] h m (A3 h (.tuple #[tyV (front l).1,.int .i64 (front l).2.1,.int .i64 (front l).2.2])):=by
 have hl:=hs.lenF B4 (by decide);subst hl;have hmx:=hs.mx;have hle:=hs.le;refine CT.body Tryz.call140 Tryz.func140 rfl Tryz.ntmps140 Lb rfl ?_;refine j0 ?_;refine xX fun b1=>?_
 refine xW fun b2=>?_
 refine xW fun b3=>?_
 refine kQ1 [1,2,3] ?_;refine xG (PO.makeFunc Evs.nil (E2 Et Et)) ?_;refine xW fun b5=>?_
 refine kQ1 [1,2,3,5] ?_;refine xG (PO.makeFunc Evs.nil (E1 Et)) ?_;refine kQ1 [1,2,3,5,6] ?_;refine kQ1 [1,2,3,5,6,7] ?_;refine a5c (h':=FL b1 b2 b3 b5 a l.length c zeroT 0++h) rfl ?_;refine kA1 ?_;refine F3 (Ev.tmp rfl) (E2 Ek Ek) (P5 b1 b2 b3 b5 a _ c l zeroT 0 5 lb h _ hs (by omega)) Lb ?_;rintro _ _ ⟨rfl,rfl⟩;refine kP0 [1,2,3,5,6,7,11] ?_;refine H9 KKh [1,2,3,5,6] rfl (fun F' h'=>∃ ok:Bool,∃ d:Int,∃ n:Nat,(pre l=(ok,d,n)/\n<=l.length)/\F'=[(7,.bool ok)]/\FL b1 b2 b3 b5 a l.length c ⟨0,d,0,[]⟩ n++h=h') ?_ ?_;refine jE ?_;refine wc (fun c11=>?_) fun c11=>?_
 have hl0:=a2D c11;refine T9 (h':=FL b1 b2 b3 b5 a l.length c zeroT 1++h) (by rw[c11];rfl) ?_;refine kA1 ?_;refine F3 (Ev.tmp rfl) (E2 Ek Ek) (P5 b1 b2 b3 b5 a _ c l zeroT 1 3 [] h _ hs (by omega)) Lb ?_;rintro _ _ ⟨rfl,rfl⟩;refine kQ1 [1,2,3,5,6,7] ?_;refine kQ1 [1,2,3,5,6,7,14] ?_;refine wc (fun c14=>?_) fun c14=>?_
 have hl1:=a2D c14;have h1:=a0S hl1;have hw:=(hT _ (List.mem_of_getElem? h1)).1;refine T9 (h':=FL b1 b2 b3 b5 a l.length c zeroT 2++h) (by rw[c14];rfl) ?_;refine kA2 ?_;refine xG (U0 Et Ek (by omega)) ?_;refine xG (G1 A6.und A6.size A6.posz (Ev.tmp rfl) (Ev.tmp rfl) Rr (q:=1) (by omega) (by omega)) ?_;refine kA2 ?_;refine xG (PO.conv a2o uu3 Et) ?_;refine WL.val (v':=.int .i64 (I2 l 1).n) (congrArg (Value.int .i64) (wrapN hw)) ?_;refine kA2 ?_;refine a5c (h':=FL b1 b2 b3 b5 a l.length c ⟨0,(I2 l 1).n,0,[]⟩ 2++h) rfl ?_;refine kQ0 [1,2,3,5,6] ?_;refine kA4 ?_;refine zG (fun _=>pL b7q) ?_;refine a3D (GU.t rfl rfl) (fun hc=>⟨(S7 rfl hc),(E2 Ek Ek),CT.outE (h2:=FL b1 b2 b3 b5 a l.length c ⟨0,(I2 l 1).n,0,[]⟩ (nx (decide ((I2 l 1).n > 0)&&next l 2 5 rb) 2)++h) (by rw[hc,Bool.true_and]) (P5 b1 b2 b3 b5 a _ c l ⟨0,(I2 l 1).n,0,[]⟩ 2 5 rb h _ hs (by omega))⟩) (fun hc=>(by rw[hc];rfl)) Lb ?_
 refine kA2 ?_;refine WL.nil (C8 [(7,.bool ((decide ((I2 l 1).n > 0)&&next l 2 5 rb)))] (h'':=FL b1 b2 b3 b5 a l.length c ⟨0,((I2 l 1).n),0,[]⟩ (nx (decide ((I2 l 1).n > 0)&&next l 2 5 rb) 2)++h) ?_ Su Sb ⟨(decide ((I2 l 1).n > 0)&&next l 2 5 rb),(I2 l 1).n,nx (decide ((I2 l 1).n > 0)&&next l 2 5 rb) 2,⟨b2j c11 c14,b70 (fun e=>a2D (by simp at e;exact e.2)) (by omega)⟩,rfl,rfl⟩);exact Su;refine T9 (h':=FL b1 b2 b3 b5 a l.length c zeroT 1++h) (by rw[c14];rfl) ?_;refine WC.skip (C8 [(7,.bool false)] (h'':=FL b1 b2 b3 b5 a l.length c ⟨0,0,0,[]⟩ 1++h) ?_ Su Sb ⟨false,0,1,⟨b6c c11 c14,by omega⟩,rfl,rfl⟩);refine Sub.consE rfl (congrArg Value.bool c14) ?_;exact Su;refine T9 (h':=FL b1 b2 b3 b5 a l.length c zeroT 0++h) (by rw[c11];rfl) ?_;refine WC.skip (C8 [(7,.bool true)] (h'':=FL b1 b2 b3 b5 a l.length c ⟨0,0,0,[]⟩ 0++h) ?_ Su Sb ⟨true,0,0,⟨b6r c11,by omega⟩,rfl,rfl⟩);exact Su
 rintro _ _ ⟨ok,d,n,⟨hP,hn⟩,rfl,rfl⟩;refine B1 rfl ?_;refine jS ?_;refine H9 KKh [2,3] rfl (fun F' h'=>∃ okB:Bool,∃ t:Ty,∃ nB:Nat,(mid l=(okB,t,nB)/\t.proto.length<=9223372036854775807)/\F'=[(7,.bool okB)]/\FL b1 b2 b3 b5 a l.length c t nB++h=h') ?_ ?_;refine kA5 ?_;refine a3D (GU.f rfl rfl) (fun hc=>⟨(S7 rfl hc),(E1 (S7 rfl hc)),CT.outE (h2:=FL b1 b2 b3 b5 a l.length c (a3K ⟨0,d,0,[]⟩ (if ok then named l n else none)) (nx (ok&&nmB l n) n)++h) (by revert hc;cases ok;exact fun hc=>absurd hc (by decide);exact fun _=>rfl) (b5z b1 b2 b3 b5 a _ c l ⟨0,d,0,[]⟩ n h _ hg hs hn)⟩) (fun hc=>(by revert hc;cases ok;exact fun _=>rfl;exact fun hc=>absurd hc (by decide))) Lb ?_;refine kQ2 [1,2,3,5,6,7,30] ?_;refine wc (fun c30=>?_) fun c30=>?_
 refine WC.skip (C8 [(7,.bool ok)] (h'':=FL b1 b2 b3 b5 a l.length c (a3K ⟨0,d,0,[]⟩ (if ok then named l n else none)) (nx (ok&&nmB l n) n)++h) ?_ Su Sb ⟨ok,a3K ⟨0,d,0,[]⟩ (if ok then named l n else none),nx (ok&&nmB l n) n,⟨b9S hP c30,by cases ok;exact Nat.zero_le _;cases named l n;exact Nat.zero_le _;exact Nat.zero_le _⟩,rfl,rfl⟩);exact Su;obtain⟨rfl,hnm⟩:ok=true/\nmB l n=false:=by revert c30;cases ok <;> simp
 have hN:=b2x hnm;refine T9 (h':=FL b1 b2 b3 b5 a l.length c ⟨0,d,0,[]⟩ n++h) (by rw[hN,hnm];rfl) ?_;refine kA1 ?_;refine F3 (Ev.tmp rfl) (E2 Ek Ek) (P5 b1 b2 b3 b5 a _ c l ⟨0,d,0,[]⟩ n 2 a1z h _ hs hn) Lb ?_;rintro _ _ ⟨rfl,rfl⟩;refine kQ1 [1,2,3,5,6,7,38] ?_;refine wc (fun c38=>?_) fun c38=>?_
 have hln:=a2D c38;refine T9 (h':=FL b1 b2 b3 b5 a l.length c ⟨0,d,0,[]⟩ (n+1)++h) (by rw[c38];rfl) ?_;refine kA2 ?_;refine a5c (h':=FL b1 b2 b3 b5 a l.length c ⟨4,d,0,[]⟩ (n+1)++h) rfl ?_;refine kQ0 [1,2,3,5,6] ?_;refine kA1 ?_;refine F3 (Ev.tmp rfl) (E2 Ek Ek) (P5 b1 b2 b3 b5 a _ c l ⟨4,d,0,[]⟩ (n+1) 2 cOF h _ hs (by omega)) Lb ?_;rintro _ _ ⟨rfl,rfl⟩;refine kA1 ?_;refine wn [1,2,3,5,6,7] ?_;refine jE ?_;have hNle:nx (next l (n+1) 2 cOF) (n+1)<=l.length:=b70 (fun e=>a2D e) (by omega);generalize ho:next l (n+1) 2 cOF=o at *;generalize hNN:nx o (n+1)=N at *;have hN2le:nx (o&&nmB l N) N<=l.length:=b70 (fun e=>c1R (by simp at e;exact e.2)) hNle;refine WC.take (r:=.pt b2 (.cells (I4 ⟨4,d,0,[]⟩).toArray 37 (0,0))) De ?_;refine WC.take (r:=.pt b3 (.cells [Value.int .i64 N].toArray 3 (0,0))) De ?_
 refine F2 [4,8,16] (.op 0 (.op 1 (.op 2 (.op 3 (.op 4 (.op 5 (.op 6 (.op 7 (.op 9 (.op 10 (.op 8 (.op 11 (.op 12 (.op 13 (.op 14 (.op 15 (.op 16 (.op 17 (.op 18 (.op 19 .nil)))))))))))))))))))) [20,21] _ [.pt b3 (.cells [Value.int .i64 N].toArray 3 (0,0)),.pt b2 (.cells (I4 ⟨4,d,0,[]⟩).toArray 37 (0,0))] D6 (fun _ _ _ _ _ h=>h) [] (by kernel_rfl) ?_;refine kA2 ?_;refine B6 rfl rfl (GU.t rfl rfl) (fun hc=>PO.move Et) Lb ?_;refine kA1 ?_;refine b4t rfl rfl (GU.t rfl rfl) (fun hc=>⟨(S7 rfl hc),(E1 (S7 rfl hc)),fun fr=>CT.perm (a8z _ _ _ _) (CT.outE (h2:=FL b1 b2 b3 b5 a l.length c (a4I ⟨4,d,0,[]⟩ (if o then named l N else none)) (nx (o&&nmB l N) N)++(fr++h)) (by rw[hc];rfl) (b4S b1 b2 b3 b5 a _ c l ⟨4,d,0,[]⟩ N (fr++h) _ hg (hs.mono Vl (List.sublist_append_right _ _)) hNle)) (a8z _ _ _ _).symm⟩) (fun hc=>(by rw[hc];rfl)) Lb ?_;generalize hN2:nx (o&&nmB l N) N=N2 at *
 generalize hT2:a4I ⟨4,d,0,[]⟩ (if o then named l N else none)=T2;have hq:N2 < l.length->l[N2]?=some (I2 l N2):=a0S;refine B6 rfl rfl (GU.t rfl rfl) (fun hc=>PO.not (Eg hc)) Lb ?_;refine kA2 ?_;refine B6 rfl rfl (GU.t rfl rfl) (fun hc=>D0 Z0 rfl Et Me rfl) Lb ?_;refine B6 rfl rfl (GU.t rfl rfl) (fun hc=>S4 Z0 (Eg hc)) Lb ?_;refine b3z rfl rfl (GU.t rfl rfl) (fun hc fr=>D0 uu3 rfl Et (List.mem_append_right _ Me) rfl) Lb ?_;refine B6 rfl rfl (GU.t rfl rfl) (fun hc=>O0 (Eg hc) (Eg hc) rfl) Lb ?_;refine kA2 ?_;refine B6 rfl rfl (GU.t rfl rfl) (fun hc=>D0 b7q rfl Et Me rfl) Lb ?_;refine B6 rfl rfl (GU.t rfl rfl) (fun hc=>D0 Z0 rfl Et Me rfl) Lb ?_;refine b3z rfl rfl (GU.t rfl rfl) (fun hc fr=>D0 uu3 rfl Et (List.mem_append_right _ Me) rfl) Lb ?_;refine B6 rfl rfl (GU.t rfl rfl) (fun hc=>G1 A6.und A6.size A6.posz (Eg hc) (Eg hc) Rr rfl (by simp at hc;omega)) Lb ?_
 refine B6 rfl rfl (GU.t rfl rfl) (fun hc=>H4 H2 rfl (Nat.ne_of_beq_eq_false rfl) B4 (Nat.succ_pos _) Rr (hq (by simp at hc;omega)) (Eg hc)) Lb ?_;refine B6 rfl rfl (GU.t rfl rfl) (fun hc=>H5 uu9 rfl B4 Rr (Eg hc) (hq (by simp at hc;omega)) rfl) Lb ?_;refine SR.nil rfl rfl ?_;refine WL.take (r:=.pt b5 (.cells [Value.func (.func 202) [].toArray [Value.pointer (some ⟨b3,0,none⟩),.pointer (some ⟨b1,0,none⟩)].toArray].toArray 247 (0,0))) De ?_;refine a3D (GU.t rfl rfl) (fun hc=>⟨(S7 rfl hc),(E2 Ek (S7 rfl hc)),CT.outE (h2:=FL b1 b2 b3 b5 a l.length c T2 (nx ((o&&!nmB l N)&&decide ((N2:Int) < l.length)&&next l N2 1 (I2 l N2).text) N2)++h) (by rw[hc,Bool.true_and]) (P5 b1 b2 b3 b5 a _ c l T2 N2 1 (I2 l N2).text h _ hs hN2le)⟩) (fun hc=>(by rw[hc];rfl)) Lb ?_;refine kQ1 [1,2,3,7,65] ?_;refine wc (fun c65=>?_) fun c65=>?_
 have d65:((o&&!nmB l N)&&decide ((N2:Int) < l.length)&&next l N2 1 (I2 l N2).text)=true:=c65;have hM:=b7A hP hN c38 ho hNN hN2 hT2 d65;have hlt:N2 < l.length:=by simp at d65;omega
 have h2:=a0S hlt;refine T9 (h':=FL b1 b2 b3 b5 a l.length c T2 (N2+1)++h) (by rw[d65];rfl) ?_;refine kA2 ?_;refine xG (U0 Et Ek (by omega)) ?_;refine xG (G1 A6.und A6.size A6.posz (Ev.tmp rfl) (Ev.tmp rfl) Rr (q:=N2) (by omega) (by omega)) ?_;refine kA4 ?_;refine a5c (h':=FL b1 b2 b3 b5 a l.length c { T2 with proto:=(I2 l N2).text } (N2+1)++h) rfl ?_;refine WL.nil (C8 [(7,.bool o)] (h'':=FL b1 b2 b3 b5 a l.length c ({ T2 with proto:=(I2 l N2).text }) (N2+1)++h) ?_ Su Sb ⟨o,{ T2 with proto:=(I2 l N2).text },N2+1,⟨hM,(hT _ (List.mem_of_getElem? h2)).2⟩,rfl,rfl⟩);exact Su;have d65:((o&&!nmB l N)&&decide ((N2:Int) < l.length)&&next l N2 1 (I2 l N2).text)=false:=c65;have hM:=b7A hP hN c38 ho hNN hN2 hT2 d65;refine T9 (h':=FL b1 b2 b3 b5 a l.length c T2 N2++h) (by rw[d65];rfl) ?_
 refine WC.skip (C8 [(7,.bool o)] (h'':=FL b1 b2 b3 b5 a l.length c T2 N2++h) ?_ Su Sb ⟨o,T2,N2,⟨hM,by rw[<- hT2];cases o;exact Nat.zero_le _;cases named l N;exact Nat.zero_le _;exact Nat.zero_le _⟩,rfl,rfl⟩);exact Su;refine T9 (h':=FL b1 b2 b3 b5 a l.length c ⟨0,d,0,[]⟩ n++h) (by rw[c38];rfl) ?_;refine kA1 ?_;refine F3 (Ev.tmp rfl) (E2 Ek Ek) (P5 b1 b2 b3 b5 a _ c l ⟨0,d,0,[]⟩ n 2 a2O h _ hs hn) Lb ?_;rintro _ _ ⟨rfl,rfl⟩;refine kQ1 [2,3,7,73] ?_;refine wc (fun c73=>?_) fun c73=>?_
 refine T9 (h':=FL b1 b2 b3 b5 a l.length c ⟨0,d,0,[]⟩ (n+1)++h) (by rw[c73];rfl) ?_;refine kA2 ?_;refine a5c (h':=FL b1 b2 b3 b5 a l.length c ⟨5,d,0,[]⟩ (n+1)++h) rfl ?_;refine WL.nil (C8 [(7,.bool true)] (h'':=FL b1 b2 b3 b5 a l.length c (⟨5,d,0,[]⟩) (n+1)++h) ?_ Su Sb ⟨true,⟨5,d,0,[]⟩,n+1,⟨a9u hP hN c38 c73,Nat.zero_le _⟩,rfl,rfl⟩);exact Su;refine T9 (h':=FL b1 b2 b3 b5 a l.length c ⟨0,d,0,[]⟩ n++h) (by rw[c73];rfl) ?_;refine WC.skip (C8 [(7,.bool true)] (h'':=FL b1 b2 b3 b5 a l.length c (⟨0,d,0,[]⟩) n++h) ?_ Su Sb ⟨true,⟨0,d,0,[]⟩,n,⟨b3R hP hN c38 c73,Nat.zero_le _⟩,rfl,rfl⟩);exact Su;rintro _ _ ⟨okB,t,nB,⟨hM,hpl⟩,rfl,rfl⟩;refine B1 rfl ?_;refine kA3 ?_;refine zG (fun _=>pA a9m) ?_;refine A7 (GU.f rfl rfl) (fun hc=>⟨Ef,(E1 (Eg hc)),may_ct t _ _ hg hpl⟩) Lb ?_;refine kQ2 [2,3,83] ?_;refine wc (fun c83=>?_) fun c83=>?_
 have hF:=b1a hM c83;refine kQ4 [2,3,4] ?_;refine WC.ret (a8e (h':=h) (.inl rfl) rfl (I1 a9m rfl rfl rfl Me rfl) (V5 uu3 rfl rfl Me rfl) (RV.tmp rfl) Vl Sb ?_);exact⟨by rw[hF];rfl,rfl⟩;have hF:=a8L hM c83;refine WC.skip (kp [2,3] ?_);refine jE ?_;refine WC.take (r:=.pt b2 (.cells (I4 t).toArray 37 (0,0))) De ?_;refine F2 [0,2] (.op 1 (.op 0 (.op 2 .nil))) [3,4] _ [.pt b2 (.cells (I4 t).toArray 37 (0,0))] D6 (fun _ _ _ _ _ h=>h) [] (by kernel_rfl) ?_;refine kA1 ?_;refine b2X rfl rfl (fun fr=>V3 a9m rfl rfl Et (List.mem_append_right _ Me) rfl) Lb ?_;refine SR.store rfl rfl rfl Et Et rfl rfl rfl rfl Up ?_;refine SR.nil rfl rfl ?_;refine kQ2 [2,3,4] ?_;refine WC.ret (a8e (h':=h) (.inl rfl) rfl (I1 a9m rfl rfl rfl Me rfl) (V5 uu3 rfl rfl Me rfl) (RV.tmp rfl) Vl Sb ?_);exact⟨by rw[hF];rfl,rfl⟩
end
end Go.Proofs.YtmhkeomphdddaaaGreatDoor.Ty9
namespace Go.Proofs.YtmhkeomphdddaaaGreatDoor
section
open Go.Eng Go.Xp Go
open Go.Lx (encB C4)
theorem b3M (x:Ex):∀ (y:Ex) (h:List Res) (m:View),TOk m h x->TOk m h y->CT Tryz.prog 181 [exV x,exV y] h m (A3 h (.bool (E5 x y))):=by
 refine Ex.ind (p:=fun x=>∀ (y:Ex) (h:List Res) (m:View),TOk m h x->TOk m h y->CT Tryz.prog 181 [exV x,exV y] h m (A3 h (.bool (E5 x y)))) (fun x ih y h m hx hy=>?_) x;have r1:=hx.rd;have r2:=hy.rd;have mx:=r1.mx;have kx:=r1.le;have he:=a7d x y;refine CT.body Tryz.call181 Tryz.func181 rfl Tryz.ntmps181 Lb rfl ?_;refine j0 ?_;refine xX fun b2=>?_
 refine xX fun b3=>?_
 refine kQ1 [2,3] ?_;refine a6M ?_;refine a6M ?_;refine kA7 ?_;refine zG (fun hc=>P2 (Eg hc) (Eg hc)) ?_;refine b8T [2,3,47] ?_;refine wc (fun c47=>?_) fun c47=>?_
 replace c47:a81 x y=true:=c47;rw[c47] at he;refine kQ1 [4] ?_;refine wT h ?_;exact⟨by rw[he];rfl,rfl⟩;replace c47:a81 x y=false:=c47;rw[c47] at he;have hl:x.l.length=y.l.length:=by
  unfold a81 at c47;simp only[Bool.or_eq_false_iff,bne_eq_false_iff_eq] at c47;omega
 refine kQ0 [2,3] ?_;refine kQ4 [2,3,50,51] ?_;refine B0 [2,3,50] rfl (fun μ F' h'=>∃ k:Nat,(k<=x.l.length/\E5 x y=a0s (x.l.drop k) (y.l.drop k))/\x.l.length - k=μ/\F'=[(51,.int .i64 k)]/\.pt b3 (.cells (exE y).toArray 29 (0,0))::.pt b2 (.cells (exE x).toArray 29 (0,0))::h=h') (x.l.length - 0) [(51,.int .i64 0)] (h0:=.pt b3 (.cells (exE y).toArray 29 (0,0))::.pt b2 (.cells (exE x).toArray 29 (0,0))::h) ?_ Sb ⟨0,⟨by omega,by rw[he];rfl⟩,rfl,rfl,rfl⟩ ?_;exact Su;rintro _ _ _ ⟨k,⟨hk,hJ⟩,rfl,rfl,rfl⟩;refine B1 rfl ?_;have q1:Rd m (.pt b3 (.cells (exE y).toArray 29 (0,0))::.pt b2 (.cells (exE x).toArray 29 (0,0))::h) x.a x.l.length x.c 6 (fl exE x.l):=r1.mono Vl Sb;have q2:Rd m (.pt b3 (.cells (exE y).toArray 29 (0,0))::.pt b2 (.cells (exE x).toArray 29 (0,0))::h) y.a y.l.length y.c 6 (fl exE y.l):=r2.mono Vl Sb;refine kQ1 [2,3,50,51,52] ?_;refine wc (fun c52=>?_) fun c52=>?_
 replace c52:=dT c52;obtain⟨u,hu⟩:=A5 (l:=x.l) (k:=k) (by omega);obtain⟨v,hv⟩:=A5 (l:=y.l) (k:=k) (by omega);rw[b1K hu hv] at hJ;have mu:=List.mem_of_getElem? hu;have mv:=List.mem_of_getElem? hv;refine kQ0 [2,3,50,51] ?_;refine kQ2 [2,3,5,50,51] ?_;refine dS [] (.op 0 (.op 1 (.op 2 (.op 3 (.op 4 (.op 5 (.op 6 (.op 7 (.op 8 (.op 9 .nil)))))))))) [10,11] D6 ?_;refine a9N ?_;refine SR.nil rfl rfl ?_;refine xf (E2 Et Et) (ih u mu v _ _ ((hx.part mu).mono Sb) ((hy.part mv).mono Sb)) ?_;refine kQ1 [2,3,50,51,65] ?_;refine wc (fun c65=>?_) fun c65=>?_
 have d65:E5 u v=false:=by simpa using c65
 rw[d65] at hJ;refine kQ1 [4] ?_;refine wT h ?_;exact⟨by rw[hJ];rfl,rfl⟩;have d65:E5 u v=true:=by simpa using c65
 rw[d65] at hJ;refine kQ0 [2,3,50,51] ?_;refine kA2 ?_;refine WL.nil (A4 (x.l.length - (k+1)) [(51,.int .i64 (k+1))] (h'':=.pt b3 (.cells (exE y).toArray 29 (0,0))::.pt b2 (.cells (exE x).toArray 29 (0,0))::h) (by omega) ?_ Su Sb ⟨k+1,⟨by omega,by rw[hJ];rfl⟩,rfl,rfl,rfl⟩);exact Su;replace c52:=dF c52;rw[List.drop_eq_nil_of_le (by omega)] at hJ;refine kQ0 [] ?_;refine kQ1 [4] ?_;refine wT h ?_;exact⟨by rw[hJ];rfl,rfl⟩
theorem a0i (x:Ex):∀ (y:Ex) (h:List Res) (m:View),TOk m h x->TOk m h y->CT Tryz.prog 55 [exV x,exV y] h m (A3 h (.bool (E5 x y))):=by
 refine Ex.ind (p:=fun x=>∀ (y:Ex) (h:List Res) (m:View),TOk m h x->TOk m h y->CT Tryz.prog 55 [exV x,exV y] h m (A3 h (.bool (E5 x y)))) (fun x ih y h m hx hy=>?_) x;have r1:=hx.rd;have r2:=hy.rd;have mx:=r1.mx;have kx:=r1.le;have he:=a7d x y;refine CT.body Tryz.call55 Tryz.func55 rfl Tryz.ntmps55 Lb rfl ?_;refine j0 ?_;refine xX fun b2=>?_
 refine xX fun b3=>?_
 refine kQ1 [2,3] ?_;refine a6M ?_;refine a6M ?_;refine kA7 ?_;refine zG (fun hc=>P2 (Eg hc) (Eg hc)) ?_;refine b8T [2,3,47] ?_;refine wc (fun c47=>?_) fun c47=>?_
 replace c47:a81 x y=true:=c47;rw[c47] at he;refine kQ1 [4] ?_;refine wT h ?_;exact⟨by rw[he];rfl,rfl⟩;replace c47:a81 x y=false:=c47;rw[c47] at he;have hl:x.l.length=y.l.length:=by
  unfold a81 at c47;simp only[Bool.or_eq_false_iff,bne_eq_false_iff_eq] at c47;omega
 refine kQ0 [2,3] ?_;refine kQ1 [2,3,5] ?_;refine B0 [2,3] rfl (fun μ F' h'=>∃ k:Nat,(k<=x.l.length/\E5 x y=a0s (x.l.drop k) (y.l.drop k))/\x.l.length - k=μ/\F'=[(5,.int .i64 k)]/\.pt b3 (.cells (exE y).toArray 29 (0,0))::.pt b2 (.cells (exE x).toArray 29 (0,0))::h=h') (x.l.length - 0) [(5,.int .i64 0)] (h0:=.pt b3 (.cells (exE y).toArray 29 (0,0))::.pt b2 (.cells (exE x).toArray 29 (0,0))::h) ?_ Sb ⟨0,⟨by omega,by rw[he];rfl⟩,rfl,rfl,rfl⟩ ?_;exact Su;rintro _ _ _ ⟨k,⟨hk,hJ⟩,rfl,rfl,rfl⟩;refine B1 rfl ?_;have q1:Rd m (.pt b3 (.cells (exE y).toArray 29 (0,0))::.pt b2 (.cells (exE x).toArray 29 (0,0))::h) x.a x.l.length x.c 6 (fl exE x.l):=r1.mono Vl Sb;have q2:Rd m (.pt b3 (.cells (exE y).toArray 29 (0,0))::.pt b2 (.cells (exE x).toArray 29 (0,0))::h) y.a y.l.length y.c 6 (fl exE y.l):=r2.mono Vl Sb;refine kQ5 [2,3,5,52] ?_;refine wc (fun c52=>?_) fun c52=>?_
 replace c52:=dT c52;obtain⟨u,hu⟩:=A5 (l:=x.l) (k:=k) (by omega);obtain⟨v,hv⟩:=A5 (l:=y.l) (k:=k) (by omega);rw[b1K hu hv] at hJ;have mu:=List.mem_of_getElem? hu;have mv:=List.mem_of_getElem? hv;refine kQ0 [2,3,5] ?_;refine dS [] (.op 0 (.op 1 (.op 2 (.op 3 (.op 4 (.op 5 (.op 6 (.op 7 (.op 8 (.op 9 .nil)))))))))) [10,11] D6 ?_;refine a9N ?_;refine SR.nil rfl rfl ?_;refine xf (E2 Et Et) (ih u mu v _ _ ((hx.part mu).mono Sb) ((hy.part mv).mono Sb)) ?_;refine kQ1 [2,3,5,66] ?_;refine wc (fun c66=>?_) fun c66=>?_
 have d65:E5 u v=false:=by simpa using c66
 rw[d65] at hJ;refine kQ1 [4] ?_;refine wT h ?_;exact⟨by rw[hJ];rfl,rfl⟩;have d65:E5 u v=true:=by simpa using c66
 rw[d65] at hJ;refine kQ0 [2,3,5] ?_;refine kA3 ?_;refine WL.nil (A4 (x.l.length - (k+1)) [(5,.int .i64 (k+1))] (h'':=.pt b3 (.cells (exE y).toArray 29 (0,0))::.pt b2 (.cells (exE x).toArray 29 (0,0))::h) (by omega) ?_ Su Sb ⟨k+1,⟨by omega,by rw[hJ];rfl⟩,rfl,rfl,rfl⟩);exact Su;replace c52:=dF c52;rw[List.drop_eq_nil_of_le (by omega)] at hJ;refine kQ0 [] ?_;refine kQ1 [4] ?_;refine wT h ?_;exact⟨by rw[hJ];rfl,rfl⟩
end
section
open Go.Eng Go.Pc Go
open Go.Xp hiding B D5
open Go.Ty (Ty Vr eqT tyV I4 PrOk VOk prL encV D7 L7 D3)
open Go.Lx (encB C4)
theorem a5B (lo hi n:Int) (h:List Res) (m:View):CT Tryz.prog 116 [.agg #[.int .i64 lo,.int .i64 hi],.int .i64 n] h m (A3 h (.bool (b2T lo hi n))):=by
 refine CT.body Tryz.call116 Tryz.func116 rfl Tryz.ntmps116 Lb rfl ?_;refine j0 ?_;refine xX fun b2=>?_
 refine kQ1 [1,2] ?_;refine c0H [4] ?_;refine wT h ?_;exact⟨rfl,rfl⟩
theorem b6J (q:FuncId) (cap:List Value) (pr:Ex->Bool) (a:Option Addr) (k c:Nat) (l:List Ex) (h:List Res) (m:View) (hq:∀ x ∈ l,CT Tryz.prog q ([exV x]++cap) h m (A3 h (.bool (pr x)))) (hs:Rd m h a k c 6 (fl exE l)) :
 CT Tryz.prog 230 [.slice a k c,.func (.func q) #[] cap.toArray] h m (A3 h (.int .i64 (Go.Ty.idxF pr l 0))):=by
 have hl:=hs.lenF a3X (by decide);have hmx:=hs.mx;have hle:=hs.le;refine CT.body Tryz.call230 Tryz.func230 rfl Tryz.ntmps230 Lb rfl ?_;refine kQ1 [0,1] ?_;refine kQ3 [0,1,7,8] ?_;refine B0 [0,1,7] rfl (fun μ F' h'=>∃ j:Nat,(j<=k/\Go.Ty.idxF pr l 0=Go.Ty.idxF pr (l.drop j) j)/\k - j=μ/\F'=[(8,.int .i64 j)]/\h=h') (k - 0) [(8,.int .i64 0)] (h0:=h) ?_ Sb ⟨0,⟨by omega,rfl⟩,rfl,rfl,rfl⟩ ?_;exact Su;rintro _ _ _ ⟨j,⟨hk,hJ⟩,rfl,rfl,rfl⟩;refine B1 rfl ?_;refine kQ1 [0,1,7,8,9] ?_;refine wc (fun c9=>?_) fun c9=>?_
 replace c9:=dT c9;obtain⟨x,hx⟩:=A5 (l:=l) (k:=j) (by omega);rw[Go.Ty.idxF_drop pr hx] at hJ;refine kQ0 [0,1,7,8] ?_;refine kQ2 [0,1,5,7,8] ?_;refine kA5 ?_;refine M4 (Ev.tmp rfl) (E1 (Ev.tmp rfl)) (hq x (List.mem_of_getElem? hx)) Lb ?_;refine kQ0 [0,1,5,7,8,16] ?_;refine wc (fun c16=>?_) fun c16=>?_
 rw[c16] at hJ;refine kQ2 [4] ?_;refine wT h ?_;exact⟨by rw[hJ];rfl,rfl⟩;rw[c16] at hJ;refine kQ0 [0,1,7,8] ?_;refine kA2 ?_;refine WL.nil (A4 (k - (j+1)) [(8,.int .i64 (j+1))] (h'':=h) (by omega) ?_ Su Sb ⟨j+1,⟨by omega,by simpa using hJ⟩,rfl,rfl,rfl⟩);exact Su;replace c9:=dF c9;rw[List.drop_eq_nil_of_le (by omega)] at hJ;refine kQ0 [] ?_;refine kQ1 [4] ?_;refine wT h ?_;exact⟨by rw[hJ];rfl,rfl⟩
theorem b8B (q:FuncId) (cap:List Value) (pr:Ex->Bool) (a:Option Addr) (k c:Nat) (l:List Ex) (h:List Res) (m:View) (hq:∀ x ∈ l,CT Tryz.prog q ([exV x]++cap) h m (A3 h (.bool (pr x)))) (hs:Rd m h a k c 6 (fl exE l)) :
 CT Tryz.prog 182 [.slice a k c,.func (.func q) #[] cap.toArray] h m (A3 h (.bool (l.any pr))):=by
 refine CT.body Tryz.call182 Tryz.func182 rfl Tryz.ntmps182 Lb rfl ?_;refine kQ1 [0,1] ?_;refine kA2 ?_;refine xf (E2 Et Et) (b6J q cap pr _ _ _ l _ _ hq hs) ?_;refine kQ2 [4] ?_;refine wT h ?_;exact⟨congrArg Value.bool (Go.Ty.idxF_any pr l 0 (by decide)),rfl⟩
theorem b2E (q0:FuncId) (c0:List Value) (b:Nat) (x:Ex) (v:Bool) (h:List Res) (m:View) (hb:Res.pt b (.cells [.func (.func q0) #[] c0.toArray].toArray 190 (0,0)) ∈ h) (hq:∀ h',h.Sublist h'->CT Tryz.prog q0 ([exV x]++c0) h' m (A3 h' (.bool v))) :
 CT Tryz.prog 183 [exV x,.pointer (some ⟨b,0,none⟩)] h m (A3 h (.bool (!v))):=by
 refine CT.body Tryz.call183 Tryz.func183 rfl Tryz.ntmps183 Lb rfl ?_;refine j0 ?_;refine xX fun b2=>?_
 refine kQ1 [1,2] ?_;refine xG (D0 c0W rfl Et (List.Mem.tail _ hb) rfl) ?_;refine kA1 ?_;refine M4 (Ev.tmp rfl) (E1 (Ev.tmp rfl)) (hq _ Sb) Lb ?_;refine kQ2 [3] ?_;refine wT h ?_;exact⟨rfl,rfl⟩
theorem a3Y (q0:FuncId) (c0:List Value) (pr:Ex->Bool) (lo hi:Int) (a:Option Addr) (k c:Nat) (l:List Ex) (h:List Res) (m:View) (hq:∀ x ∈ l,∀ h',h.Sublist h'->CT Tryz.prog q0 ([exV x]++c0) h' m (A3 h' (.bool (pr x)))) (hs:Rd m h a k c 6 (fl exE l)) :
 CT Tryz.prog 122 [.slice a k c,.agg #[.int .i64 lo,.int .i64 hi],.func (.func q0) #[] c0.toArray] h m (A3 h (.bool (a0G l lo hi pr))):=by
 have hl:=hs.lenF a3X (by decide);subst hl;refine CT.body Tryz.call122 Tryz.func122 rfl Tryz.ntmps122 Lb rfl ?_;refine j0 ?_;refine xX fun b4=>?_
 refine xX fun b5=>?_
 refine kQ1 [0,4,5] ?_;refine kA3 ?_;refine xf (E2 Et Et) (a5B lo hi l.length _ _) ?_;refine kA2 ?_;refine zG (fun _=>PO.makeFunc Evs.nil (E1 Et)) ?_;refine A7 (GU.t rfl rfl) (fun hc=>⟨Ef,(E2 (Eg hc) (Eg hc)),b8B 183 [.pointer (some ⟨b5,0,none⟩)] (fun x=>!pr x) _ _ _ l _ _ (fun x hx=>b2E q0 c0 b5 x (pr x) _ _ Me (fun h' hh=>hq x hx h' (List.Sublist.trans Sb hh))) (hs.mono Vl Sb)⟩) Lb ?_;refine kQ3 [6] ?_;refine wT h ?_;exact⟨rfl,rfl⟩
theorem b89 (q:FuncId) (cap:List Value) (pr:Gu->Bool) (a:Option Addr) (k c:Nat) (l:List Gu) (h:List Res) (m:View) (hq:∀ x ∈ l,CT Tryz.prog q ([guV x]++cap) h m (A3 h (.bool (pr x)))) (hs:Rd m h a k c 23 (fl guE l)) :
 CT Tryz.prog 229 [.slice a k c,.func (.func q) #[] cap.toArray] h m (A3 h (.int .i64 (Go.Ty.idxF pr l 0))):=by
 have hl:=hs.lenF a5e (by decide);have hmx:=hs.mx;have hle:=hs.le;refine CT.body Tryz.call229 Tryz.func229 rfl Tryz.ntmps229 Lb rfl ?_;refine kQ1 [0,1] ?_;refine kQ3 [0,1,7,8] ?_;refine B0 [0,1,7] rfl (fun μ F' h'=>∃ j:Nat,(j<=k/\Go.Ty.idxF pr l 0=Go.Ty.idxF pr (l.drop j) j)/\k - j=μ/\F'=[(8,.int .i64 j)]/\h=h') (k - 0) [(8,.int .i64 0)] (h0:=h) ?_ Sb ⟨0,⟨by omega,rfl⟩,rfl,rfl,rfl⟩ ?_;exact Su;rintro _ _ _ ⟨j,⟨hk,hJ⟩,rfl,rfl,rfl⟩;refine B1 rfl ?_;refine kQ1 [0,1,7,8,9] ?_;refine wc (fun c9=>?_) fun c9=>?_
 replace c9:=dT c9;obtain⟨x,hx⟩:=A5 (l:=l) (k:=j) (by omega);rw[Go.Ty.idxF_drop pr hx] at hJ;refine kQ0 [0,1,7,8] ?_;refine kQ2 [0,1,5,7,8] ?_;refine kA5 ?_;refine M4 (Ev.tmp rfl) (E1 (Ev.tmp rfl)) (hq x (List.mem_of_getElem? hx)) Lb ?_;refine kQ0 [0,1,5,7,8,16] ?_;refine wc (fun c16=>?_) fun c16=>?_
 rw[c16] at hJ;refine kQ2 [4] ?_;refine wT h ?_;exact⟨by rw[hJ];rfl,rfl⟩;rw[c16] at hJ;refine kQ0 [0,1,7,8] ?_;refine kA2 ?_;refine WL.nil (A4 (k - (j+1)) [(8,.int .i64 (j+1))] (h'':=h) (by omega) ?_ Su Sb ⟨j+1,⟨by omega,by simpa using hJ⟩,rfl,rfl,rfl⟩);exact Su;replace c9:=dF c9;rw[List.drop_eq_nil_of_le (by omega)] at hJ;refine kQ0 [] ?_;refine kQ1 [4] ?_;refine wT h ?_;exact⟨by rw[hJ];rfl,rfl⟩
theorem b7s (q:FuncId) (cap:List Value) (pr:Gu->Bool) (a:Option Addr) (k c:Nat) (l:List Gu) (h:List Res) (m:View) (hq:∀ x ∈ l,CT Tryz.prog q ([guV x]++cap) h m (A3 h (.bool (pr x)))) (hs:Rd m h a k c 23 (fl guE l)) :
 CT Tryz.prog 178 [.slice a k c,.func (.func q) #[] cap.toArray] h m (A3 h (.bool (l.any pr))):=by
 refine CT.body Tryz.call178 Tryz.func178 rfl Tryz.ntmps178 Lb rfl ?_;refine kQ1 [0,1] ?_;refine kA2 ?_;refine xf (E2 Et Et) (b89 q cap pr _ _ _ l _ _ hq hs) ?_;refine kQ2 [4] ?_;refine wT h ?_;exact⟨congrArg Value.bool (Go.Ty.idxF_any pr l 0 (by decide)),rfl⟩
theorem b2A (q0:FuncId) (c0:List Value) (b:Nat) (x:Gu) (v:Bool) (h:List Res) (m:View) (hb:Res.pt b (.cells [.func (.func q0) #[] c0.toArray].toArray 187 (0,0)) ∈ h) (hq:∀ h',h.Sublist h'->CT Tryz.prog q0 ([guV x]++c0) h' m (A3 h' (.bool v))) :
 CT Tryz.prog 179 [guV x,.pointer (some ⟨b,0,none⟩)] h m (A3 h (.bool (!v))):=by
 refine CT.body Tryz.call179 Tryz.func179 rfl Tryz.ntmps179 Lb rfl ?_;refine j0 ?_;refine xX fun b2=>?_
 refine kQ1 [1,2] ?_;refine xG (D0 c1g rfl Et (List.Mem.tail _ hb) rfl) ?_;refine kA1 ?_;refine M4 (Ev.tmp rfl) (E1 (Ev.tmp rfl)) (hq _ Sb) Lb ?_;refine kQ2 [3] ?_;refine wT h ?_;exact⟨rfl,rfl⟩
theorem b5H (q0:FuncId) (c0:List Value) (pr:Gu->Bool) (lo hi:Int) (a:Option Addr) (k c:Nat) (l:List Gu) (h:List Res) (m:View) (hq:∀ x ∈ l,∀ h',h.Sublist h'->CT Tryz.prog q0 ([guV x]++c0) h' m (A3 h' (.bool (pr x)))) (hs:Rd m h a k c 23 (fl guE l)) :
 CT Tryz.prog 117 [.slice a k c,.agg #[.int .i64 lo,.int .i64 hi],.func (.func q0) #[] c0.toArray] h m (A3 h (.bool (a0G l lo hi pr))):=by
 have hl:=hs.lenF a5e (by decide);subst hl;refine CT.body Tryz.call117 Tryz.func117 rfl Tryz.ntmps117 Lb rfl ?_;refine j0 ?_;refine xX fun b4=>?_
 refine xX fun b5=>?_
 refine kQ1 [0,4,5] ?_;refine kA3 ?_;refine xf (E2 Et Et) (a5B lo hi l.length _ _) ?_;refine kA2 ?_;refine zG (fun _=>PO.makeFunc Evs.nil (E1 Et)) ?_;refine A7 (GU.t rfl rfl) (fun hc=>⟨Ef,(E2 (Eg hc) (Eg hc)),b7s 179 [.pointer (some ⟨b5,0,none⟩)] (fun x=>!pr x) _ _ _ l _ _ (fun x hx=>b2A q0 c0 b5 x (pr x) _ _ Me (fun h' hh=>hq x hx h' (List.Sublist.trans Sb hh))) (hs.mono Vl Sb)⟩) Lb ?_;refine kQ3 [6] ?_;refine wT h ?_;exact⟨rfl,rfl⟩
theorem b7O (q:FuncId) (cap:List Value) (pr:Int->Bool) (a:Option Addr) (k c:Nat) (l:List Int) (h:List Res) (m:View) (hq:∀ x ∈ l,CT Tryz.prog q ([.int .i64 x]++cap) h m (A3 h (.bool (pr x)))) (hs:Rd m h a k c 1 (fl a3e l)) :
 CT Tryz.prog 232 [.slice a k c,.func (.func q) #[] cap.toArray] h m (A3 h (.int .i64 (Go.Ty.idxF pr l 0))):=by
 have hl:=hs.lenF a7t (by decide);have hmx:=hs.mx;have hle:=hs.le;refine CT.body Tryz.call232 Tryz.func232 rfl Tryz.ntmps232 Lb rfl ?_;refine kQ1 [0,1] ?_;refine kQ3 [0,1,7,8] ?_;refine B0 [0,1,7] rfl (fun μ F' h'=>∃ j:Nat,(j<=k/\Go.Ty.idxF pr l 0=Go.Ty.idxF pr (l.drop j) j)/\k - j=μ/\F'=[(8,.int .i64 j)]/\h=h') (k - 0) [(8,.int .i64 0)] (h0:=h) ?_ Sb ⟨0,⟨by omega,rfl⟩,rfl,rfl,rfl⟩ ?_;exact Su;rintro _ _ _ ⟨j,⟨hk,hJ⟩,rfl,rfl,rfl⟩;refine B1 rfl ?_;refine kQ1 [0,1,7,8,9] ?_;refine wc (fun c9=>?_) fun c9=>?_
 replace c9:=dT c9;obtain⟨x,hx⟩:=A5 (l:=l) (k:=j) (by omega);rw[Go.Ty.idxF_drop pr hx] at hJ;refine kQ0 [0,1,7,8] ?_;refine kQ2 [0,1,5,7,8] ?_;refine kA5 ?_;refine M4 (Ev.tmp rfl) (E1 (Ev.tmp rfl)) (hq x (List.mem_of_getElem? hx)) Lb ?_;refine kQ0 [0,1,5,7,8,16] ?_;refine wc (fun c16=>?_) fun c16=>?_
 rw[c16] at hJ;refine kQ2 [4] ?_;refine wT h ?_;exact⟨by rw[hJ];rfl,rfl⟩;rw[c16] at hJ;refine kQ0 [0,1,7,8] ?_;refine kA2 ?_;refine WL.nil (A4 (k - (j+1)) [(8,.int .i64 (j+1))] (h'':=h) (by omega) ?_ Su Sb ⟨j+1,⟨by omega,by simpa using hJ⟩,rfl,rfl,rfl⟩);exact Su;replace c9:=dF c9;rw[List.drop_eq_nil_of_le (by omega)] at hJ;refine kQ0 [] ?_;refine kQ1 [4] ?_;refine wT h ?_;exact⟨by rw[hJ];rfl,rfl⟩
theorem b8g (q:FuncId) (cap:List Value) (pr:Int->Bool) (a:Option Addr) (k c:Nat) (l:List Int) (h:List Res) (m:View) (hq:∀ x ∈ l,CT Tryz.prog q ([.int .i64 x]++cap) h m (A3 h (.bool (pr x)))) (hs:Rd m h a k c 1 (fl a3e l)) :
 CT Tryz.prog 186 [.slice a k c,.func (.func q) #[] cap.toArray] h m (A3 h (.bool (l.any pr))):=by
 refine CT.body Tryz.call186 Tryz.func186 rfl Tryz.ntmps186 Lb rfl ?_;refine kQ1 [0,1] ?_;refine kA2 ?_;refine xf (E2 Et Et) (b7O q cap pr _ _ _ l _ _ hq hs) ?_;refine kQ2 [4] ?_;refine wT h ?_;exact⟨congrArg Value.bool (Go.Ty.idxF_any pr l 0 (by decide)),rfl⟩
theorem b2p (q0:FuncId) (c0:List Value) (b:Nat) (x:Int) (v:Bool) (h:List Res) (m:View) (hb:Res.pt b (.cells [.func (.func q0) #[] c0.toArray].toArray 126 (0,0)) ∈ h) (hq:∀ h',h.Sublist h'->CT Tryz.prog q0 ([.int .i64 x]++c0) h' m (A3 h' (.bool v))) :
 CT Tryz.prog 187 [.int .i64 x,.pointer (some ⟨b,0,none⟩)] h m (A3 h (.bool (!v))):=by
 refine CT.body Tryz.call187 Tryz.func187 rfl Tryz.ntmps187 Lb rfl ?_;refine kQ1 [0,1] ?_;refine xG (D0 c1e rfl Et hb rfl) ?_;refine kA1 ?_;refine M4 (Ev.tmp rfl) (E1 (Ev.tmp rfl)) (hq _ Sb) Lb ?_;refine kQ2 [3] ?_;refine wT h ?_;exact⟨rfl,rfl⟩
theorem b5J (q0:FuncId) (c0:List Value) (pr:Int->Bool) (lo hi:Int) (a:Option Addr) (k c:Nat) (l:List Int) (h:List Res) (m:View) (hq:∀ x ∈ l,∀ h',h.Sublist h'->CT Tryz.prog q0 ([.int .i64 x]++c0) h' m (A3 h' (.bool (pr x)))) (hs:Rd m h a k c 1 (fl a3e l)) :
 CT Tryz.prog 124 [.slice a k c,.agg #[.int .i64 lo,.int .i64 hi],.func (.func q0) #[] c0.toArray] h m (A3 h (.bool (a0G l lo hi pr))):=by
 have hl:=hs.lenF a7t (by decide);subst hl;refine CT.body Tryz.call124 Tryz.func124 rfl Tryz.ntmps124 Lb rfl ?_;refine j0 ?_;refine xX fun b4=>?_
 refine xX fun b5=>?_
 refine kQ1 [0,4,5] ?_;refine kA3 ?_;refine xf (E2 Et Et) (a5B lo hi l.length _ _) ?_;refine kA2 ?_;refine zG (fun _=>PO.makeFunc Evs.nil (E1 Et)) ?_;refine A7 (GU.t rfl rfl) (fun hc=>⟨Ef,(E2 (Eg hc) (Eg hc)),b8g 187 [.pointer (some ⟨b5,0,none⟩)] (fun x=>!pr x) _ _ _ l _ _ (fun x hx=>b2p q0 c0 b5 x (pr x) _ _ Me (fun h' hh=>hq x hx h' (List.Sublist.trans Sb hh))) (hs.mono Vl Sb)⟩) Lb ?_;refine kQ3 [6] ?_;refine wT h ?_;exact⟨rfl,rfl⟩
theorem b6n (q:FuncId) (cap:List Value) (pr:Fo->Bool) (a:Option Addr) (k c:Nat) (l:List Fo) (h:List Res) (m:View) (hq:∀ x ∈ l,CT Tryz.prog q ([foV x]++cap) h m (A3 h (.bool (pr x)))) (hs:Rd m h a k c 6 (fl foE l)) :
 CT Tryz.prog 247 [.slice a k c,.func (.func q) #[] cap.toArray] h m (A3 h (.int .i64 (Go.Ty.idxF pr l 0))):=by
 have hl:=hs.lenF a3G (by decide);have hmx:=hs.mx;have hle:=hs.le;refine CT.body Tryz.call247 Tryz.func247 rfl Tryz.ntmps247 Lb rfl ?_;refine kQ1 [0,1] ?_;refine kQ3 [0,1,7,8] ?_;refine B0 [0,1,7] rfl (fun μ F' h'=>∃ j:Nat,(j<=k/\Go.Ty.idxF pr l 0=Go.Ty.idxF pr (l.drop j) j)/\k - j=μ/\F'=[(8,.int .i64 j)]/\h=h') (k - 0) [(8,.int .i64 0)] (h0:=h) ?_ Sb ⟨0,⟨by omega,rfl⟩,rfl,rfl,rfl⟩ ?_;exact Su;rintro _ _ _ ⟨j,⟨hk,hJ⟩,rfl,rfl,rfl⟩;refine B1 rfl ?_;refine kQ1 [0,1,7,8,9] ?_;refine wc (fun c9=>?_) fun c9=>?_
 replace c9:=dT c9;obtain⟨x,hx⟩:=A5 (l:=l) (k:=j) (by omega);rw[Go.Ty.idxF_drop pr hx] at hJ;refine kQ0 [0,1,7,8] ?_;refine kQ2 [0,1,5,7,8] ?_;refine kA5 ?_;refine M4 (Ev.tmp rfl) (E1 (Ev.tmp rfl)) (hq x (List.mem_of_getElem? hx)) Lb ?_;refine kQ0 [0,1,5,7,8,16] ?_;refine wc (fun c16=>?_) fun c16=>?_
 rw[c16] at hJ;refine kQ2 [4] ?_;refine wT h ?_;exact⟨by rw[hJ];rfl,rfl⟩;rw[c16] at hJ;refine kQ0 [0,1,7,8] ?_;refine kA2 ?_;refine WL.nil (A4 (k - (j+1)) [(8,.int .i64 (j+1))] (h'':=h) (by omega) ?_ Su Sb ⟨j+1,⟨by omega,by simpa using hJ⟩,rfl,rfl,rfl⟩);exact Su;replace c9:=dF c9;rw[List.drop_eq_nil_of_le (by omega)] at hJ;refine kQ0 [] ?_;refine kQ1 [4] ?_;refine wT h ?_;exact⟨by rw[hJ];rfl,rfl⟩
theorem b7d (q:FuncId) (cap:List Value) (pr:Fo->Bool) (a:Option Addr) (k c:Nat) (l:List Fo) (h:List Res) (m:View) (hq:∀ x ∈ l,CT Tryz.prog q ([foV x]++cap) h m (A3 h (.bool (pr x)))) (hs:Rd m h a k c 6 (fl foE l)) :
 CT Tryz.prog 207 [.slice a k c,.func (.func q) #[] cap.toArray] h m (A3 h (.bool (l.any pr))):=by
 refine CT.body Tryz.call207 Tryz.func207 rfl Tryz.ntmps207 Lb rfl ?_;refine kQ1 [0,1] ?_;refine kA2 ?_;refine xf (E2 Et Et) (b6n q cap pr _ _ _ l _ _ hq hs) ?_;refine kQ2 [4] ?_;refine wT h ?_;exact⟨congrArg Value.bool (Go.Ty.idxF_any pr l 0 (by decide)),rfl⟩
theorem b2B (q0:FuncId) (c0:List Value) (b:Nat) (x:Fo) (v:Bool) (h:List Res) (m:View) (hb:Res.pt b (.cells [.func (.func q0) #[] c0.toArray].toArray 204 (0,0)) ∈ h) (hq:∀ h',h.Sublist h'->CT Tryz.prog q0 ([foV x]++c0) h' m (A3 h' (.bool v))) :
 CT Tryz.prog 208 [foV x,.pointer (some ⟨b,0,none⟩)] h m (A3 h (.bool (!v))):=by
 refine CT.body Tryz.call208 Tryz.func208 rfl Tryz.ntmps208 Lb rfl ?_;refine j0 ?_;refine xX fun b2=>?_
 refine kQ1 [1,2] ?_;refine xG (D0 c0Y rfl Et (List.Mem.tail _ hb) rfl) ?_;refine kA1 ?_;refine M4 (Ev.tmp rfl) (E1 (Ev.tmp rfl)) (hq _ Sb) Lb ?_;refine kQ2 [3] ?_;refine wT h ?_;exact⟨rfl,rfl⟩
theorem b5k (q0:FuncId) (c0:List Value) (pr:Fo->Bool) (lo hi:Int) (a:Option Addr) (k c:Nat) (l:List Fo) (h:List Res) (m:View) (hq:∀ x ∈ l,∀ h',h.Sublist h'->CT Tryz.prog q0 ([foV x]++c0) h' m (A3 h' (.bool (pr x)))) (hs:Rd m h a k c 6 (fl foE l)) :
 CT Tryz.prog 144 [.slice a k c,.agg #[.int .i64 lo,.int .i64 hi],.func (.func q0) #[] c0.toArray] h m (A3 h (.bool (a0G l lo hi pr))):=by
 have hl:=hs.lenF a3G (by decide);subst hl;refine CT.body Tryz.call144 Tryz.func144 rfl Tryz.ntmps144 Lb rfl ?_;refine j0 ?_;refine xX fun b4=>?_
 refine xX fun b5=>?_
 refine kQ1 [0,4,5] ?_;refine kA3 ?_;refine xf (E2 Et Et) (a5B lo hi l.length _ _) ?_;refine kA2 ?_;refine zG (fun _=>PO.makeFunc Evs.nil (E1 Et)) ?_;refine A7 (GU.t rfl rfl) (fun hc=>⟨Ef,(E2 (Eg hc) (Eg hc)),b7d 208 [.pointer (some ⟨b5,0,none⟩)] (fun x=>!pr x) _ _ _ l _ _ (fun x hx=>b2B q0 c0 b5 x (pr x) _ _ Me (fun h' hh=>hq x hx h' (List.Sublist.trans Sb hh))) (hs.mono Vl Sb)⟩) Lb ?_;refine kQ3 [6] ?_;refine wT h ?_;exact⟨rfl,rfl⟩
theorem b8v (q:FuncId) (cap:List Value) (pr:B->Bool) (a:Option Addr) (k c:Nat) (l:List B) (h:List Res) (m:View) (hq:∀ x ∈ l,CT Tryz.prog q ([str x]++cap) h m (A3 h (.bool (pr x)))) (hs:Rd m h a k c 1 (fl encB l)) :
 CT Tryz.prog 248 [.slice a k c,.func (.func q) #[] cap.toArray] h m (A3 h (.int .i64 (Go.Ty.idxF pr l 0))):=by
 have hl:=hs.lenF C4 (by decide);have hmx:=hs.mx;have hle:=hs.le;refine CT.body Tryz.call248 Tryz.func248 rfl Tryz.ntmps248 Lb rfl ?_;refine kQ1 [0,1] ?_;refine kQ3 [0,1,7,8] ?_;refine B0 [0,1,7] rfl (fun μ F' h'=>∃ j:Nat,(j<=k/\Go.Ty.idxF pr l 0=Go.Ty.idxF pr (l.drop j) j)/\k - j=μ/\F'=[(8,.int .i64 j)]/\h=h') (k - 0) [(8,.int .i64 0)] (h0:=h) ?_ Sb ⟨0,⟨by omega,rfl⟩,rfl,rfl,rfl⟩ ?_;exact Su;rintro _ _ _ ⟨j,⟨hk,hJ⟩,rfl,rfl,rfl⟩;refine B1 rfl ?_;refine kQ1 [0,1,7,8,9] ?_;refine wc (fun c9=>?_) fun c9=>?_
 replace c9:=dT c9;obtain⟨x,hx⟩:=A5 (l:=l) (k:=j) (by omega);rw[Go.Ty.idxF_drop pr hx] at hJ;refine kQ0 [0,1,7,8] ?_;refine kQ2 [0,1,5,7,8] ?_;refine kA5 ?_;refine M4 (Ev.tmp rfl) (E1 (Ev.tmp rfl)) (hq x (List.mem_of_getElem? hx)) Lb ?_;refine kQ0 [0,1,5,7,8,16] ?_;refine wc (fun c16=>?_) fun c16=>?_
 rw[c16] at hJ;refine kQ2 [4] ?_;refine wT h ?_;exact⟨by rw[hJ];rfl,rfl⟩;rw[c16] at hJ;refine kQ0 [0,1,7,8] ?_;refine kA2 ?_;refine WL.nil (A4 (k - (j+1)) [(8,.int .i64 (j+1))] (h'':=h) (by omega) ?_ Su Sb ⟨j+1,⟨by omega,by simpa using hJ⟩,rfl,rfl,rfl⟩);exact Su;replace c9:=dF c9;rw[List.drop_eq_nil_of_le (by omega)] at hJ;refine kQ0 [] ?_;refine kQ1 [4] ?_;refine wT h ?_;exact⟨by rw[hJ];rfl,rfl⟩
theorem b5Q (q:FuncId) (cap:List Value) (pr:B->Bool) (a:Option Addr) (k c:Nat) (l:List B) (h:List Res) (m:View) (hq:∀ x ∈ l,CT Tryz.prog q ([str x]++cap) h m (A3 h (.bool (pr x)))) (hs:Rd m h a k c 1 (fl encB l)) :
 CT Tryz.prog 209 [.slice a k c,.func (.func q) #[] cap.toArray] h m (A3 h (.bool (l.any pr))):=by
 refine CT.body Tryz.call209 Tryz.func209 rfl Tryz.ntmps209 Lb rfl ?_;refine kQ1 [0,1] ?_;refine kA2 ?_;refine xf (E2 Et Et) (b8v q cap pr _ _ _ l _ _ hq hs) ?_;refine kQ2 [4] ?_;refine wT h ?_;exact⟨congrArg Value.bool (Go.Ty.idxF_any pr l 0 (by decide)),rfl⟩
theorem b2N (q0:FuncId) (c0:List Value) (b:Nat) (x:B) (v:Bool) (h:List Res) (m:View) (hb:Res.pt b (.cells [.func (.func q0) #[] c0.toArray].toArray 70 (0,0)) ∈ h) (hq:∀ h',h.Sublist h'->CT Tryz.prog q0 ([str x]++c0) h' m (A3 h' (.bool v))) :
 CT Tryz.prog 210 [str x,.pointer (some ⟨b,0,none⟩)] h m (A3 h (.bool (!v))):=by
 refine CT.body Tryz.call210 Tryz.func210 rfl Tryz.ntmps210 Lb rfl ?_;refine kQ1 [0,1] ?_;refine xG (D0 c3K rfl Et hb rfl) ?_;refine kA1 ?_;refine M4 (Ev.tmp rfl) (E1 (Ev.tmp rfl)) (hq _ Sb) Lb ?_;refine kQ2 [3] ?_;refine wT h ?_;exact⟨rfl,rfl⟩
theorem b4h (q0:FuncId) (c0:List Value) (pr:B->Bool) (lo hi:Int) (a:Option Addr) (k c:Nat) (l:List B) (h:List Res) (m:View) (hq:∀ x ∈ l,∀ h',h.Sublist h'->CT Tryz.prog q0 ([str x]++c0) h' m (A3 h' (.bool (pr x)))) (hs:Rd m h a k c 1 (fl encB l)) :
 CT Tryz.prog 145 [.slice a k c,.agg #[.int .i64 lo,.int .i64 hi],.func (.func q0) #[] c0.toArray] h m (A3 h (.bool (a0G l lo hi pr))):=by
 have hl:=hs.lenF C4 (by decide);subst hl;refine CT.body Tryz.call145 Tryz.func145 rfl Tryz.ntmps145 Lb rfl ?_;refine j0 ?_;refine xX fun b4=>?_
 refine xX fun b5=>?_
 refine kQ1 [0,4,5] ?_;refine kA3 ?_;refine xf (E2 Et Et) (a5B lo hi l.length _ _) ?_;refine kA2 ?_;refine zG (fun _=>PO.makeFunc Evs.nil (E1 Et)) ?_;refine A7 (GU.t rfl rfl) (fun hc=>⟨Ef,(E2 (Eg hc) (Eg hc)),b5Q 210 [.pointer (some ⟨b5,0,none⟩)] (fun x=>!pr x) _ _ _ l _ _ (fun x hx=>b2N q0 c0 b5 x (pr x) _ _ Me (fun h' hh=>hq x hx h' (List.Sublist.trans Sb hh))) (hs.mono Vl Sb)⟩) Lb ?_;refine kQ3 [6] ?_;refine wT h ?_;exact⟨rfl,rfl⟩
end
section
open Go.Eng Go.Pc Go
open Go.Xp hiding B D5
open Go.Ty (Ty Vr eqT tyV I4 PrOk VOk prL encV D7 L7 D3)
open Go.Lx (encB C4)
theorem a0L (u a z:Bool) (h:List Res) (m:View):CT Tryz.prog 118 [.bool u,.bool a,.bool z] h m (A3 h (.bool (a2Z u a z))):=by
 refine CT.body Tryz.call118 Tryz.func118 rfl Tryz.ntmps118 Lb rfl ?_;refine kQ1 [0,1,2] ?_;refine kQ1 [1,2,7] ?_;refine wc (fun c7=>?_) fun c7=>?_
 refine kQ2 [6] ?_;refine wT h ?_;exact⟨by rw[c7];rfl,rfl⟩;refine kQ0 [2] ?_;refine kQ2 [6] ?_;refine wT h ?_;exact⟨by rw[c7];rfl,rfl⟩
theorem a7V (m:View) (h:List Res):TOk m h A2:=.mk (Rd.nilF exE 6 m h) (fun _ hx=>by cases hx)
theorem a1x {m:View} {h:List Res} (e:Ex) (hT:TOk m h e):CT Tryz.prog 121 [exV e] h m (A3 h (.bool (Y0 e))):=by
 refine CT.body Tryz.call121 Tryz.func121 rfl Tryz.ntmps121 Lb rfl ?_;refine j0 ?_;refine xX fun b1=>?_
 refine kQ1 [1] ?_;refine kA2 ?_;refine xf (E2 Et Et) (b3M e A2 _ _ (hT.mono Sb) (a7V _ _)) ?_;refine kQ1 [2] ?_;refine wT h ?_;exact⟨rfl,rfl⟩
theorem a3I {m:View} {h:List Res} (hg:Glob m) (e:Ex) (hE:EOk m h e):CT Tryz.prog 120 [exV e] h m (A3 h (.bool (N7 e))):=by
 have hT:=hE.t;have hW:=hE.w;refine CT.body Tryz.call120 Tryz.func120 rfl Tryz.ntmps120 Lb rfl ?_;refine j0 ?_;refine xX fun b1=>?_
 refine kQ1 [1] ?_;refine kA9 ?_;refine zG (fun _=>pA a1t) ?_;refine A7 (GU.t rfl rfl) (fun hc=>⟨Ef,(E1 (Eg hc)),may_ct hg e _ (hT.mono Sb) hW⟩) Lb ?_;refine kQ2 [2] ?_;refine wT h ?_;exact⟨rfl,rfl⟩
theorem a4U (t:Ty) (h:List Res) (m:View) (hg:Glob m) (hs:t.proto.length<=9223372036854775807):CT Tryz.prog 143 [tyV t] h m (A3 h (.bool (a1A t))):=by
 refine CT.body Tryz.call143 Tryz.func143 rfl Tryz.ntmps143 Lb rfl ?_;refine j0 ?_;refine xX fun b1=>?_
 refine kQ1 [1] ?_;refine kA1 ?_;refine xf (E1 Et) (Ty9.may_ct t _ _ hg hs) ?_;refine c0H [2] ?_;refine wT h ?_;exact⟨rfl,rfl⟩
theorem c1E {m:View} {h:List Res} (hg:Glob m) (r:Rp) (hn:r.name.length<=Big) (hb:EOk m h r.base) (hcn:EOk m h r.count):CT Tryz.prog 113 [rpV r] h m (A3 h (.bool (a4D r))):=by
 have hn2:r.name.length<=9223372036854775807:=Nat.le_trans hn (by decide);refine CT.body Tryz.call113 Tryz.func113 rfl Tryz.ntmps113 Lb rfl ?_;refine j0 ?_;refine xX fun b1=>?_
 refine kQ1 [1] ?_;refine kA2 ?_;refine xG (M6 Et Ek) ?_;refine kQ0 [1,5] ?_;refine wc (fun c5=>?_) fun c5=>?_
 have hR:a4D r=(Y0 r.base&&Y0 r.count):=by unfold a4D;rw[if_pos c5]
 refine kA2 ?_;refine xf (E1 Et) (a1x r.base (hb.t.mono Sb)) ?_;refine kA3 ?_;refine A7 (GU.t rfl rfl) (fun hc=>⟨Ef,(E1 (Eg hc)),a1x r.count (hcn.t.mono Sb)⟩) Lb ?_;refine kQ2 [2] ?_;refine wT h ?_;exact⟨by rw[hR],rfl⟩;have hR:a4D r=(Go.Lx.name r.name&&M0 r.base&&M0 r.count):=by unfold a4D;rw[if_neg (by rw[c5];decide)]
 refine kQ0 [1] ?_;refine kA2 ?_;refine xf (E1 Et) (Z6 r.name _ _ hg hn2) ?_;refine kA3 ?_;refine A7 (GU.t rfl rfl) (fun hc=>⟨Ef,(E1 (Eg hc)),may_ct hg r.base _ (hb.t.mono Sb) hb.w⟩) Lb ?_;refine kA4 ?_;refine A7 (GU.t rfl rfl) (fun hc=>⟨Ef,(E1 (Eg hc)),may_ct hg r.count _ (hcn.t.mono Sb) hcn.w⟩) Lb ?_;refine kQ2 [2] ?_;refine wT h ?_;exact⟨by rw[hR],rfl⟩
theorem b8l {m:View} {h:List Res} (hg:Glob m) (f:Fo) (hw:FoW f):CT Tryz.prog 139 [foV f] h m (A3 h (.bool (foP f))):=by
 have hn2:f.name.length<=9223372036854775807:=Nat.le_trans hw.n (by decide);have hp2:f.ty.proto.length<=9223372036854775807:=Nat.le_trans hw.t.p (by decide);refine CT.body Tryz.call139 Tryz.func139 rfl Tryz.ntmps139 Lb rfl ?_;refine j0 ?_;refine xX fun b1=>?_
 refine kQ1 [1] ?_;refine kA2 ?_;refine xf (E1 Et) (Z6 f.name _ _ hg hn2) ?_;refine kA3 ?_;refine A7 (GU.t rfl rfl) (fun hc=>⟨Ef,(E1 (Eg hc)),Ty9.may_ct f.ty _ _ hg hp2⟩) Lb ?_;refine kA8 ?_;refine A7 (a3p rfl rfl) (fun hc=>⟨Ef,(E1 (Eg hc)),a4U f.ty _ _ hg hp2⟩) Lb ?_;refine zG (fun hc=>a2y hc rfl rfl) ?_;refine kQ2 [2] ?_;refine wT h ?_;exact⟨rfl,rfl⟩
theorem b9U (v:Int) (a:Option Addr) (k c:Nat) (l:List Int) (h:List Res) (m:View) (hs:Rd m h a k c 1 (fl L7 l)) :
 CT Tryz.prog 228 [.slice a k c,.int .u8 v] h m (A3 h (.int .i64 (Go.Ty.idxF (v==·) l 0))):=by
 have hl:=hs.lenF D3 (by decide);have hmx:=hs.mx;have hle:=hs.le;refine CT.body Tryz.call228 Tryz.func228 rfl Tryz.ntmps228 Lb rfl ?_;refine kQ1 [0,1] ?_;refine kQ3 [0,1,7,8] ?_;refine B0 [0,1,7] rfl (fun μ F' h'=>∃ j:Nat,(j<=k/\Go.Ty.idxF (v==·) l 0=Go.Ty.idxF (v==·) (l.drop j) j)/\k - j=μ/\F'=[(8,.int .i64 j)]/\h=h') (k - 0) [(8,.int .i64 0)] (h0:=h) ?_ Sb ⟨0,⟨by omega,rfl⟩,rfl,rfl,rfl⟩ ?_;exact Su;rintro _ _ _ ⟨j,⟨hk,hJ⟩,rfl,rfl,rfl⟩;refine B1 rfl ?_;refine kQ1 [0,1,7,8,9] ?_;refine wc (fun c9=>?_) fun c9=>?_
 replace c9:=dT c9;obtain⟨x,hx⟩:=A5 (l:=l) (k:=j) (by omega);rw[Go.Ty.idxF_drop _ hx] at hJ;refine kQ0 [0,1,7,8] ?_;refine kQ2 [0,1,5,7,8] ?_;refine kQ6 [0,1,5,7,8,16] ?_;refine wc (fun c16=>?_) fun c16=>?_
 replace c16:(v==x)=true:=c16;rw[c16] at hJ;refine kQ2 [4] ?_;refine wT h ?_;exact⟨by rw[hJ];rfl,rfl⟩;replace c16:(v==x)=false:=c16;rw[c16] at hJ;refine kQ0 [0,1,7,8] ?_;refine kA2 ?_;refine WL.nil (A4 (k - (j+1)) [(8,.int .i64 (j+1))] (h'':=h) (by omega) ?_ Su Sb ⟨j+1,⟨by omega,by simpa using hJ⟩,rfl,rfl,rfl⟩);exact Su;replace c9:=dF c9;rw[List.drop_eq_nil_of_le (by omega)] at hJ;refine kQ0 [] ?_;refine kQ1 [4] ?_;refine wT h ?_;exact⟨by rw[hJ];rfl,rfl⟩
theorem b8O (v:Int) (a:Option Addr) (k c:Nat) (l:List Int) (h:List Res) (m:View) (hs:Rd m h a k c 1 (fl L7 l)) :
 CT Tryz.prog 177 [.slice a k c,.int .u8 v] h m (A3 h (.bool (l.any (v==·)))):=by
 refine CT.body Tryz.call177 Tryz.func177 rfl Tryz.ntmps177 Lb rfl ?_;refine kQ1 [0,1] ?_;refine kA2 ?_;refine xf (E2 Et Et) (b9U v _ _ _ l _ _ hs) ?_;refine kQ2 [4] ?_;refine wT h ?_;exact⟨congrArg Value.bool (Go.Ty.idxF_any _ l 0 (by decide)),rfl⟩
theorem a4L {m:View} {h:List Res} (b1:Nat) (g:Gu) (hb1:Res.pt b1 (.cells (guE g).toArray 102 (0,0)) ∈ h) (a:Option Addr) (k c:Nat) (l:List Int) (hs:Rd m h a k c 1 (fl L7 l)) :
 CT Tryz.prog 176 [.slice a k c,.pointer (some ⟨b1,0,none⟩)] h m (A3 h (.bool (l.any (g.k==·)))):=by
 refine CT.body Tryz.call176 Tryz.func176 rfl Tryz.ntmps176 Lb rfl ?_;refine kQ1 [0,1] ?_;refine kA2 ?_;refine xG (D0 b4a rfl Et hb1 rfl) ?_;refine xf (E2 Et Et) (b8O g.k _ _ _ l _ _ hs) ?_;refine kQ1 [3] ?_;refine wT h ?_;exact⟨rfl,rfl⟩
theorem c4g (k:Int):([1,2,3,4]:List Int).any (k==·)=((k==1)||(k==2)||(k==3)||(k==4)):=by simp[Bool.or_assoc]
theorem c3i (k:Int):([3,4]:List Int).any (k==·)=((k==3)||(k==4)):=by simp
theorem c3c (k q:Int):([q]:List Int).any (k==·)=(k==q):=by simp
set_option maxHeartbeats 2000000 in
theorem b5m {m:View} {h:List Res} (hg:Glob m) (g:Gu) (hO:GOk m h g):CT Tryz.prog 115 [guV g] h m (A3 h (.bool (guP g))):=by
 have hn2:g.name.length<=9223372036854775807:=Nat.le_trans hO.n (by decide);have htr:=hO.tg.rd;have hvr:=hO.vl.rd;refine CT.body Tryz.call115 Tryz.func115 rfl Tryz.ntmps115 Lb rfl ?_;refine j0 ?_;refine xX fun b1=>?_
 refine kQ1 [1] ?_;refine xG (PO.makeFunc Evs.nil (E1 Et)) ?_;refine kQ1 [1,3] ?_;refine kA2 ?_;refine xf (E1 Et) (may_ct hg g.cond _ (hO.cond.t.mono Sb) hO.cond.w) ?_;refine kQ1 [1,3,4] ?_;refine kA1 ?_;refine xY a8u Eb fun b12=>?_
 refine M4 (Ev.tmp rfl) (E1 (Ev.tmp rfl)) (CT.val (a4L b1 g Me _ _ _ [3,4] (Rd.ofPt rfl Lb Me)) (congrArg Value.bool (c3i g.k))) Lb ?_;refine kP0 [1,3,4,13] ?_;refine H9 KKh [1,3] rfl (fun F' h'=>∃ cb:Bool,(cb=a7P g)/\F'=[(4,.bool cb)]/\.pt b1 (.cells (guE g).toArray 102 (0,0))::h=h') ?_ ?_;refine jE ?_;refine wc (fun c13=>?_) fun c13=>?_
 refine kA4 ?_;refine A7 (GU.f rfl rfl) (fun hc=>⟨Ef,(E1 (Eg hc)),a1x g.cond (hO.cond.t.mono Sb)⟩) Lb ?_;refine kA2 ?_;refine WL.nil (C8 [(4,.bool (M0 g.cond||Y0 g.cond))] (h'':=.pt b1 (.cells (guE g).toArray 102 (0,0))::h) ?_ Su Sb ⟨M0 g.cond||Y0 g.cond,by unfold a7P;rw[if_pos c13],rfl,rfl⟩);exact Su;refine WC.skip (C8 [(4,.bool (M0 g.cond))] (h'':=.pt b1 (.cells (guE g).toArray 102 (0,0))::h) ?_ Su Sb ⟨M0 g.cond,by unfold a7P;rw[if_neg (by rw[c13];decide)],rfl,rfl⟩);exact Su;rintro _ _ ⟨cb,hcb,rfl,rfl⟩;refine B1 rfl ?_;refine kA1 ?_;refine xW fun b5=>?_
 refine kQ1 [1,3,4,5] ?_;refine kP2 [1,3,4,5,22] ?_;refine H9 KKh [1,3,4,5] rfl (fun F' h'=>∃ lo:Int,∃ hi:Int,(lo=(if g.k=3 then 1 else 0)/\hi=(if g.k=3 then 8 else if g.k=7 then 8 else 0))/\F'=[]/\.pt b5 (.cells [.int .i64 lo,.int .i64 hi].toArray 167 (0,0))::.pt b1 (.cells (guE g).toArray 102 (0,0))::h=h') ?_ ?_;refine kQ2 [1,3,4,5,22,23] ?_;refine wc (fun c23=>?_) fun c23=>?_
 replace c23:=F9 c23;refine j0 ?_;refine xG (H7 (vs:=a5X) Q9 rfl rfl Ev.global rfl (fun j v hj=>by rw[Nat.zero_add];exact hg.sSome j v hj)) ?_;refine kA1 ?_;refine WL.nil (C8 [] (h'':=.pt b5 (.cells [.int .i64 1,.int .i64 8].toArray 167 (0,0))::.pt b1 (.cells (guE g).toArray 102 (0,0))::h) ?_ Su Sb ⟨1,8,⟨by rw[if_pos c23],by rw[if_pos c23]⟩,rfl,rfl⟩);exact Su;replace c23:=F7 c23;refine kQ2 [1,3,4,5,26] ?_;refine wc (fun c26=>?_) fun c26=>?_
 replace c26:=F9 c26;refine kA2 ?_;refine WL.nil (C8 [] (h'':=.pt b5 (.cells [.int .i64 0,.int .i64 8].toArray 167 (0,0))::.pt b1 (.cells (guE g).toArray 102 (0,0))::h) ?_ Su Sb ⟨0,8,⟨by rw[if_neg c23],by rw[if_neg c23,if_pos c26]⟩,rfl,rfl⟩);exact Su;replace c26:=F7 c26;refine WC.skip (C8 [] (h'':=.pt b5 (.cells [.int .i64 0,.int .i64 0].toArray 167 (0,0))::.pt b1 (.cells (guE g).toArray 102 (0,0))::h) ?_ Su Sb ⟨0,0,⟨by rw[if_neg c23],by rw[if_neg c23,if_neg c26]⟩,rfl,rfl⟩);exact Su;rintro _ _ ⟨lo,hi,⟨hlo,hhi⟩,rfl,rfl⟩;refine B1 rfl ?_;refine kA1 ?_;refine xW fun b6=>?_
 refine kQ1 [1,3,4,5,6] ?_;refine kP3 [1,3,4,5,6,32] ?_;refine H9 KKh [1,3,4,5,6] rfl (fun F' h'=>∃ lo2:Int,∃ hi2:Int,(lo2=(if g.k=5 then 1 else 0)/\hi2=(if g.k=5 then 8 else 0))/\F'=[]/\.pt b6 (.cells [.int .i64 lo2,.int .i64 hi2].toArray 167 (0,0))::.pt b5 (.cells [.int .i64 lo,.int .i64 hi].toArray 167 (0,0))::.pt b1 (.cells (guE g).toArray 102 (0,0))::h=h') ?_ ?_;refine jE ?_;refine wc (fun c32=>?_) fun c32=>?_
 replace c32:=F9 c32;refine j0 ?_;refine xG (H7 (vs:=a5X) Q9 rfl rfl Ev.global rfl (fun j v hj=>by rw[Nat.zero_add];exact hg.sSome j v hj)) ?_;refine kA1 ?_;refine WL.nil (C8 [] (h'':=.pt b6 (.cells [.int .i64 1,.int .i64 8].toArray 167 (0,0))::.pt b5 (.cells [.int .i64 lo,.int .i64 hi].toArray 167 (0,0))::.pt b1 (.cells (guE g).toArray 102 (0,0))::h) ?_ Su Sb ⟨1,8,⟨by rw[if_pos c32],by rw[if_pos c32]⟩,rfl,rfl⟩);exact Su;replace c32:=F7 c32;refine WC.skip (C8 [] (h'':=.pt b6 (.cells [.int .i64 0,.int .i64 0].toArray 167 (0,0))::.pt b5 (.cells [.int .i64 lo,.int .i64 hi].toArray 167 (0,0))::.pt b1 (.cells (guE g).toArray 102 (0,0))::h) ?_ Su Sb ⟨0,0,⟨by rw[if_neg c32],by rw[if_neg c32]⟩,rfl,rfl⟩);exact Su;rintro _ _ ⟨lo2,hi2,⟨hlo2,hhi2⟩,rfl,rfl⟩;refine B1 rfl ?_;refine jE ?_
 refine dS [16,17,21,22,26,27,30,34,38,39,42,45,46,50,51,54,57,58,64] (.op 0 (.op 1 (.op 2 (.op 3 (.op 4 (.op 5 (.op 6 (.op 7 (.op 8 (.op 9 (.op 10 (.op 11 (.op 12 (.op 13 (.op 14 (.op 15 (.op 18 (.op 19 (.op 20 (.op 16 (.op 17 (.op 21 (.op 22 (.op 23 (.op 24 (.op 25 (.op 28 (.op 29 (.op 31 (.op 32 (.op 33 (.op 26 (.op 27 (.op 30 (.op 34 (.op 35 (.op 36 (.op 37 (.op 40 (.op 41 (.op 43 (.op 44 (.op 38 (.op 39 (.op 42 (.op 45 (.op 46 (.op 47 (.op 48 (.op 49 (.op 52 (.op 53 (.op 55 (.op 56 (.op 50 (.op 51 (.op 54 (.op 57 (.op 58 (.op 59 (.op 60 (.op 61 (.op 62 (.op 63 (.op 64 (.op 65 (.op 66 (.op 67 (.op 68 (.op 69 .nil)))))))))))))))))))))))))))))))))))))))))))))))))))))))))))))))))))))) [70,71,72] D6 ?_;refine kA2 ?_;refine yG rfl (O0 Et Ek rfl) ?_;refine kA3 ?_;refine B6 rfl rfl (GU.t rfl rfl) (fun hc=>O0 (Eg hc) Ek rfl) Lb ?_;refine kA4 ?_
 refine B6 rfl rfl (GU.t rfl rfl) (fun hc=>S4 c1Y (Eg hc)) Lb ?_;refine B6 rfl rfl (GU.t rfl rfl) (fun hc=>O0 (Eg hc) Ek rfl) Lb ?_;refine kA2 ?_;refine B6 rfl rfl (GU.t rfl rfl) (fun hc=>PO.move Et) Lb ?_;refine B6 rfl rfl (GU.t rfl rfl) (fun hc=>PO.move Et) Lb ?_;refine kA2 ?_;refine Y7 rfl rfl (GU.t rfl rfl) a8u rfl (fun hc=>(EvP.cons Ek (EvP.cons Ek (EvP.cons Ek (EvP.cons Ek EvP.nil))))) rfl rfl (by decide) rfl Lb fun b50 r50 hr50=>?_
 refine G7 rfl rfl (GU.t rfl rfl) (fun hc=>⟨(S7 rfl hc),(E1 (S7 rfl hc)),fun fr=>CT.val (a4L b1 g (List.mem_append_right _ Me) _ _ _ [1,2,3,4] (Rd.ofPt rfl Lb (by rw[hr50 hc];exact List.mem_append_right _ (List.Mem.head _)))) (congrArg Value.bool (c4g g.k))⟩) Lb ?_;refine G7 rfl rfl (GU.t rfl rfl) (fun hc=>⟨Ef,(E1 (Eg hc)),fun fr=>a1x g.cond (hO.cond.t.mono Sb)⟩) Lb ?_;refine G7 rfl rfl (GU.t rfl rfl) (fun hc=>⟨Ef,(E3 (Eg hc) (Eg hc) (Eg hc)),fun fr=>a0L _ _ _ _ _⟩) Lb ?_;refine kA2 ?_;refine B6 rfl rfl (GU.t rfl rfl) (fun hc=>PO.move Et) Lb ?_;refine kA4 ?_;refine B6 rfl rfl (GU.t rfl rfl) (fun hc=>M6 (Eg hc) Ek) Lb ?_;refine Y7 rfl rfl (GU.t rfl rfl) a8u rfl (fun hc=>(EvP.cons Ek EvP.nil)) rfl rfl (by decide) rfl Lb fun b60 r60 hr60=>?_
 refine G7 rfl rfl (GU.t rfl rfl) (fun hc=>⟨(S7 rfl hc),(E1 (S7 rfl hc)),fun fr=>CT.val (a4L b1 g (List.mem_append_right _ Me) _ _ _ [7] (Rd.ofPt rfl Lb (by rw[hr60 hc];exact List.mem_append_right _ (List.Mem.head _)))) (congrArg Value.bool (c3c g.k 7))⟩) Lb ?_;refine G7 rfl rfl (GU.t rfl rfl) (fun hc=>⟨Ef,(E1 (Eg hc)),fun fr=>Z6 g.name _ _ hg hn2⟩) Lb ?_;refine G7 rfl rfl (GU.t rfl rfl) (fun hc=>⟨Ef,(E3 (Eg hc) (Eg hc) (Eg hc)),fun fr=>a0L _ _ _ _ _⟩) Lb ?_;refine kA2 ?_;refine B6 rfl rfl (GU.t rfl rfl) (fun hc=>PO.move Et) Lb ?_;refine kA4 ?_;refine Y7 rfl rfl (GU.t rfl rfl) a8u rfl (fun hc=>(EvP.cons Ek (EvP.cons Ek EvP.nil))) rfl rfl (by decide) rfl Lb fun b72 r72 hr72=>?_
 refine G7 rfl rfl (GU.t rfl rfl) (fun hc=>⟨(S7 rfl hc),(E1 (S7 rfl hc)),fun fr=>CT.val (a4L b1 g (List.mem_append_right _ Me) _ _ _ [3,4] (Rd.ofPt rfl Lb (by rw[hr72 hc];exact List.mem_append_right _ (List.Mem.head _)))) (congrArg Value.bool (c3i g.k))⟩) Lb ?_;refine G7 rfl rfl (GU.t rfl rfl) (fun hc=>⟨Ef,(E1 (Eg hc)),fun fr=>a3I hg g.ch (hO.ch.mono Sb)⟩) Lb ?_;refine G7 rfl rfl (GU.t rfl rfl) (fun hc=>⟨Ef,(E1 (Eg hc)),fun fr=>a1x g.ch (hO.ch.t.mono Sb)⟩) Lb ?_;refine G7 rfl rfl (GU.t rfl rfl) (fun hc=>⟨Ef,(E3 (Eg hc) (Eg hc) (Eg hc)),fun fr=>a0L _ _ _ _ _⟩) Lb ?_;refine kA2 ?_;refine B6 rfl rfl (GU.t rfl rfl) (fun hc=>PO.move Et) Lb ?_;refine kA4 ?_;refine Y7 rfl rfl (GU.t rfl rfl) a8u rfl (fun hc=>(EvP.cons Ek EvP.nil)) rfl rfl (by decide) rfl Lb fun b84 r84 hr84=>?_
 refine G7 rfl rfl (GU.t rfl rfl) (fun hc=>⟨(S7 rfl hc),(E1 (S7 rfl hc)),fun fr=>CT.val (a4L b1 g (List.mem_append_right _ Me) _ _ _ [4] (Rd.ofPt rfl Lb (by rw[hr84 hc];exact List.mem_append_right _ (List.Mem.head _)))) (congrArg Value.bool (c3c g.k 4))⟩) Lb ?_;refine G7 rfl rfl (GU.t rfl rfl) (fun hc=>⟨Ef,(E1 (Eg hc)),fun fr=>may_ct hg g.time _ (hO.time.t.mono Sb) hO.time.w⟩) Lb ?_;refine G7 rfl rfl (GU.t rfl rfl) (fun hc=>⟨Ef,(E1 (Eg hc)),fun fr=>a1x g.time (hO.time.t.mono Sb)⟩) Lb ?_;refine G7 rfl rfl (GU.t rfl rfl) (fun hc=>⟨Ef,(E3 (Eg hc) (Eg hc) (Eg hc)),fun fr=>a0L _ _ _ _ _⟩) Lb ?_;refine kA4 ?_;refine B6 rfl rfl (GU.t rfl rfl) (fun hc=>V3 Q9 rfl rfl Et Me rfl) Lb ?_;refine G7 rfl rfl (GU.t rfl rfl) (fun hc=>⟨Ef,(E3 (Eg hc) (Eg hc) Ef),fun fr=>a3Y 120 [] N7 lo hi _ _ _ g.tg.l _ _ (fun x hx h' hh=>a3I hg x ((hO.tg.ok x hx).mono (List.Sublist.trans Sb hh))) (htr.mono Vl Sb)⟩) Lb ?_
 refine kA4 ?_;refine B6 rfl rfl (GU.t rfl rfl) (fun hc=>V3 Q9 rfl rfl Et Me rfl) Lb ?_;refine SR.nil rfl rfl ?_;refine A7 (GU.t rfl rfl) (fun hc=>⟨Ef,(E3 (Eg hc) (Eg hc) Ef),a3Y 123 [] M0 lo2 hi2 _ _ _ g.vl.l _ _ (fun x hx h' hh=>may_ct hg x _ ((hO.vl.ok x hx).t.mono (List.Sublist.trans Sb hh)) (hO.vl.ok x hx).w) (hvr.mono Vl Sb)⟩) Lb ?_;refine kQ2 [2] ?_;refine wT h ?_;exact⟨by unfold guP;rw[<- hcb,<- hlo,<- hhi,<- hlo2,<- hhi2],rfl⟩
end
section
open Go.Eng Go.Pc Go
open Go.Xp hiding B D5
open Go.Ty (Ty Vr eqT tyV I4 PrOk VOk prL encV D7 L7 D3 eqI a1X a1Y a9s)
open Go.Lx (encB C4)
theorem b4G {m:View} {h:List Res} (hg:Glob m) (k:Int):CT Tryz.prog 112 [.int .u8 k] h m (A3 h (.tuple #[.agg (usE (C0 k).1).toArray,.bool (C0 k).2])):=by
 refine CT.body Tryz.call112 Tryz.func112 rfl Tryz.ntmps112 Lb rfl ?_;refine j0 ?_;refine xW fun b2=>?_
 refine kQ1 [0,2] ?_;refine kQ1 [2,4] ?_;refine kP2 [2,4,5] ?_;refine H9 KKh [2,4] rfl (fun F' h'=>∃ q1:Bool,(q1=true↔(k=1\/k=2))/\F'=[(5,.bool q1)]/\.pt b2 (.cells (usE us0).toArray 183 (0,0))::h=h') ?_ ?_;refine jE ?_;refine wc (fun c5=>?_) fun c5=>?_
 have ca:(k==1)=true:=c5;refine WC.skip (C8 [(5,.bool ((k==1)))] (h'':=.pt b2 (.cells (usE us0).toArray 183 (0,0))::h) ?_ Su Sb ⟨(k==1),⟨fun _=>.inl (by simpa using ca),fun _=>ca⟩,rfl,rfl⟩);exact Su;have ca:(k==1)=false:=c5;refine kA2 ?_;refine WL.nil (C8 [(5,.bool ((k==2)))] (h'':=.pt b2 (.cells (usE us0).toArray 183 (0,0))::h) ?_ Su Sb ⟨(k==2),⟨fun hk=>.inr (by simpa using hk),fun hk=>hk.elim (fun h1=>absurd h1 (by simpa using ca)) (fun h1=>by simpa using h1)⟩,rfl,rfl⟩);exact Su;rintro _ _ ⟨q1,hb1,rfl,rfl⟩;refine B1 rfl ?_;refine jE ?_;refine wc (fun c5=>?_) fun c5=>?_
 have hk:=hb1.1 c5;refine kQ3 [2,3] ?_;refine w2 h (h1:=cA U9) ?_;exact⟨by rcases hk with hk | hk <;> (rw[hk];rfl),rfl⟩;have hk12:¬ (k=1\/k=2):=fun q=>by rw[hb1.2 q] at c5;cases c5
 refine kQ2 [2,4,9] ?_;refine wc (fun c9=>?_) fun c9=>?_
 replace c9:=F9 c9;refine j0 ?_;refine xG (H7 (vs:=a5X) Q9 rfl rfl Ev.global rfl (fun j v hj=>by rw[Nat.zero_add];exact hg.sSome j v hj)) ?_;refine xG (H7 (vs:=a5X) Q9 rfl rfl Ev.global rfl (fun j v hj=>by rw[Nat.zero_add];exact hg.sSome j v hj)) ?_;refine kQ3 [2,3] ?_;refine w2 h (h1:=cA U9) ?_;exact⟨by rw[c9];rfl,rfl⟩;replace c9:=F7 c9;refine kQ2 [2,4,14] ?_;refine wc (fun c14=>?_) fun c14=>?_
 replace c14:=F9 c14;refine j0 ?_;refine xG (H7 (vs:=a5X) Q9 rfl rfl Ev.global rfl (fun j v hj=>by rw[Nat.zero_add];exact hg.sSome j v hj)) ?_;refine kQ3 [2,3] ?_;refine w2 h (h1:=cA U9) ?_;exact⟨by rw[c14];rfl,rfl⟩;replace c14:=F7 c14;refine kQ2 [2,4,18] ?_;refine wc (fun c18=>?_) fun c18=>?_
 replace c18:=F9 c18;refine kQ4 [2,3] ?_;refine w2 h (h1:=cA U9) ?_;exact⟨by rw[c18];rfl,rfl⟩;replace c18:=F7 c18;refine kQ2 [2,4,22] ?_;refine wc (fun c22=>?_) fun c22=>?_
 replace c22:=F9 c22;refine j0 ?_;refine xG (H7 (vs:=a7m) Q9 rfl rfl Ev.global rfl (fun j v hj=>by rw[Nat.zero_add];exact hg.sOne j v hj)) ?_;refine kQ3 [2,3] ?_;refine w2 h (h1:=cA U9) ?_;exact⟨by rw[c22];rfl,rfl⟩;replace c22:=F7 c22;refine kQ2 [2,4,26] ?_;refine wc (fun c26=>?_) fun c26=>?_
 replace c26:=F9 c26;refine kA1 ?_;refine xG (PO.build U9 rfl rfl rfl Eb (by exact rfl)) ?_;refine kQ2 [2,3] ?_;refine w2 h (h1:=cA U9) ?_;exact⟨by rw[c26];rfl,rfl⟩;replace c26:=F7 c26;refine kP2 [2,4,30] ?_;refine H9 KKh [2,4] rfl (fun F' h'=>∃ q2:Bool,(q2=true↔(k=8\/k=9))/\F'=[(30,.bool q2)]/\.pt b2 (.cells (usE us0).toArray 183 (0,0))::h=h') ?_ ?_;refine jE ?_;refine wc (fun c30=>?_) fun c30=>?_
 have ca:(k==8)=true:=c30;refine WC.skip (C8 [(30,.bool ((k==8)))] (h'':=.pt b2 (.cells (usE us0).toArray 183 (0,0))::h) ?_ Su Sb ⟨(k==8),⟨fun _=>.inl (by simpa using ca),fun _=>ca⟩,rfl,rfl⟩);exact Su;have ca:(k==8)=false:=c30;refine kA2 ?_;refine WL.nil (C8 [(30,.bool ((k==9)))] (h'':=.pt b2 (.cells (usE us0).toArray 183 (0,0))::h) ?_ Su Sb ⟨(k==9),⟨fun hk=>.inr (by simpa using hk),fun hk=>hk.elim (fun h1=>absurd h1 (by simpa using ca)) (fun h1=>by simpa using h1)⟩,rfl,rfl⟩);exact Su;rintro _ _ ⟨q2,hb2,rfl,rfl⟩;refine B1 rfl ?_;refine jE ?_;refine wc (fun c30=>?_) fun c30=>?_
 have hk:=hb2.1 c30;refine j0 ?_;refine xG (H7 (vs:=b9u) Q9 rfl rfl Ev.global rfl (fun j v hj=>by rw[Nat.zero_add];exact hg.sAll j v hj)) ?_;refine kQ3 [2,3] ?_;refine w2 h (h1:=cA U9) ?_;exact⟨by rcases hk with hk | hk <;> (rw[hk];rfl),rfl⟩;have hk89:¬ (k=8\/k=9):=fun q=>by rw[hb2.2 q] at c30;cases c30
 refine kQ2 [2,4,35] ?_;refine wc (fun c35=>?_) fun c35=>?_
 replace c35:=F9 c35;refine kQ4 [2,3] ?_;refine w2 h (h1:=cA U9) ?_;exact⟨by rw[c35];rfl,rfl⟩;replace c35:=F7 c35;refine kQ2 [2,4,39] ?_;refine wc (fun c39=>?_) fun c39=>?_
 replace c39:=F9 c39;refine kQ4 [2,3] ?_;refine w2 h (h1:=cA U9) ?_;exact⟨by rw[c39];rfl,rfl⟩;replace c39:=F7 c39;refine kP2 [2,4,43] ?_;refine H9 KKh [2,4] rfl (fun F' h'=>∃ q3:Bool,(q3=true↔(k=12\/k=13))/\F'=[(43,.bool q3)]/\.pt b2 (.cells (usE us0).toArray 183 (0,0))::h=h') ?_ ?_;refine jE ?_;refine wc (fun c43=>?_) fun c43=>?_
 have ca:(k==12)=true:=c43;refine WC.skip (C8 [(43,.bool ((k==12)))] (h'':=.pt b2 (.cells (usE us0).toArray 183 (0,0))::h) ?_ Su Sb ⟨(k==12),⟨fun _=>.inl (by simpa using ca),fun _=>ca⟩,rfl,rfl⟩);exact Su;have ca:(k==12)=false:=c43;refine kA2 ?_;refine WL.nil (C8 [(43,.bool ((k==13)))] (h'':=.pt b2 (.cells (usE us0).toArray 183 (0,0))::h) ?_ Su Sb ⟨(k==13),⟨fun hk=>.inr (by simpa using hk),fun hk=>hk.elim (fun h1=>absurd h1 (by simpa using ca)) (fun h1=>by simpa using h1)⟩,rfl,rfl⟩);exact Su;rintro _ _ ⟨q3,hb3,rfl,rfl⟩;refine B1 rfl ?_;refine jE ?_;refine wc (fun c43=>?_) fun c43=>?_
 have hk:=hb3.1 c43;refine kA1 ?_;refine xG (PO.build U9 rfl rfl rfl Eb (by exact rfl)) ?_;refine kQ2 [2,3] ?_;refine w2 h (h1:=cA U9) ?_;exact⟨by rcases hk with hk | hk <;> (rw[hk];rfl),rfl⟩;have hk1213:¬ (k=12\/k=13):=fun q=>by rw[hb3.2 q] at c43;cases c43
 refine kQ2 [2,4,48] ?_;refine wc (fun c48=>?_) fun c48=>?_
 replace c48:=F9 c48;refine kA1 ?_;refine xG (PO.build U9 rfl rfl rfl Eb (by exact rfl)) ?_;refine kQ2 [2,3] ?_;refine w2 h (h1:=cA U9) ?_;exact⟨by rw[c48];rfl,rfl⟩;replace c48:=F7 c48;refine kQ2 [2,4,52] ?_;refine wc (fun c52=>?_) fun c52=>?_
 replace c52:=F9 c52;refine j0 ?_;refine xG (H7 (vs:=a7m) Q9 rfl rfl Ev.global rfl (fun j v hj=>by rw[Nat.zero_add];exact hg.sOne j v hj)) ?_;refine kA1 ?_;refine xG (PO.build U9 rfl rfl rfl Eb (by exact rfl)) ?_;refine kQ2 [2,3] ?_;refine w2 h (h1:=cA U9) ?_;exact⟨by rw[c52];rfl,rfl⟩;replace c52:=F7 c52;refine kQ2 [2,4,57] ?_;refine wc (fun c57=>?_) fun c57=>?_
 replace c57:=F9 c57;refine j0 ?_;refine xG (H7 (vs:=a7m) Q9 rfl rfl Ev.global rfl (fun j v hj=>by rw[Nat.zero_add];exact hg.sOne j v hj)) ?_;refine xG (H7 (vs:=a7m) Q9 rfl rfl Ev.global rfl (fun j v hj=>by rw[Nat.zero_add];exact hg.sOne j v hj)) ?_;refine kQ3 [2,3] ?_;refine w2 h (h1:=cA U9) ?_;exact⟨by rw[c57];rfl,rfl⟩;replace c57:=F7 c57;refine kQ2 [2,4,62] ?_;refine wc (fun c62=>?_) fun c62=>?_
 replace c62:=F9 c62;refine kQ4 [2,3] ?_;refine w2 h (h1:=cA U9) ?_;exact⟨by rw[c62];rfl,rfl⟩;replace c62:=F7 c62;refine kQ2 [2,66] ?_;refine wc (fun c66=>?_) fun c66=>?_
 replace c66:=F9 c66;refine j0 ?_;refine xG (H7 (vs:=a7m) Q9 rfl rfl Ev.global rfl (fun j v hj=>by rw[Nat.zero_add];exact hg.sOne j v hj)) ?_;refine kQ3 [2,3] ?_;refine w2 h (h1:=cA U9) ?_;exact⟨by rw[c66];rfl,rfl⟩;replace c66:=F7 c66;have hF:C0 k=(us0,false):=by
  unfold C0;repeat rw[if_neg (by omega)]
 refine kQ0 [2] ?_;refine kQ3 [2,3] ?_;refine w2 h (h1:=cA U9) ?_;exact⟨by rw[hF];rfl,rfl⟩
def eqS (x y:B):Bool:=x==y
theorem c2D {x y:B} (h:(!(x==y))=true):eqS x y=false:=by simpa [eqS] using h
theorem c2v {x y:B} (h:(!(x==y))=false):eqS x y=true:=by simpa [eqS] using h
theorem b9j (x y:B):eqS x y=true↔x=y:=by simp[eqS]
theorem c00 {x y:Fo} (h:(!(a1p x y))=true):a1p x y=false:=by simpa using h
theorem b9H {x y:Fo} (h:(!(a1p x y))=false):a1p x y=true:=by simpa using h
theorem b3r {α:Type} [BEq α] [LawfulBEq α] {e:α->α->Bool} (he:∀ x y,e x y=true↔x=y) (xs ys:List α):eqL e xs ys=(xs==ys):=by
 rw[Bool.eq_iff_iff,a9n he];simp
theorem b0X (s1 s2:Option Addr) (n1 c1 n2 c2:Nat) (xs ys:List _) (h:List Res) (m:View) (h1:Rd m h s1 n1 c1 1 (fl L7 xs)) (h2:Rd m h s2 n2 c2 1 (fl L7 ys)) :
 CT Tryz.prog 212 [.slice s1 n1 c1,.slice s2 n2 c2] h m (A3 h (.bool (eqL eqI xs ys))):=by
 have l1:=h1.lenF D3 (by decide);have l2:=h2.lenF D3 (by decide);have m1:=h1.mx;have m2:=h2.mx;have k1:=h1.le;have k2:=h2.le;refine CT.body Tryz.call212 Tryz.func212 rfl Tryz.ntmps212 Lb rfl ?_;refine kQ1 [0,1] ?_;refine kQ5 [0,1,10] ?_;refine wc (fun c10=>?_) fun c10=>?_
 replace c10:=a1i c10;refine kQ1 [4] ?_;refine wT h ?_;exact⟨by rw[P3 _ _ _ (by omega)],rfl⟩;replace c10:=a0U c10;refine kQ0 [0,1] ?_;refine kQ3 [0,1,12,13] ?_;refine B0 [0,1,12] rfl (fun μ F' h'=>∃ k:Nat,(k<=n1/\eqL eqI xs ys=eqL eqI (xs.drop k) (ys.drop k))/\n1 - k=μ/\F'=[(13,.int .i64 k)]/\h=h') (n1 - 0) [(13,.int .i64 0)] (h0:=h) ?_ Sb ⟨0,⟨by omega,by simp⟩,rfl,rfl,rfl⟩ ?_;exact Su;rintro _ _ _ ⟨k,⟨hk,hJ⟩,rfl,rfl,rfl⟩;refine B1 rfl ?_;refine kQ1 [0,1,12,13,14] ?_;refine wc (fun c14=>?_) fun c14=>?_
 replace c14:=dT c14;obtain⟨x,hx⟩:=A5 (l:=xs) (k:=k) (by omega);obtain⟨y,hy⟩:=A5 (l:=ys) (k:=k) (by omega);rw[N9 _ hx hy] at hJ;refine kQ0 [0,1,12,13] ?_;refine kQ2 [0,1,5,12,13] ?_;refine dS [] (.op 0 (.op 1 (.op 2 (.op 3 (.op 4 (.op 5 (.op 6 (.op 7 .nil)))))))) [8] D6 ?_;refine kA8 ?_;refine SR.nil rfl rfl ?_;refine kQ1 [0,1,12,13,24] ?_;refine wc (fun c24=>?_) fun c24=>?_
 refine kQ1 [4] ?_;refine wT h ?_;exact⟨by rw[hJ,a1X c24];rfl,rfl⟩;rw[a1Y c24,Bool.true_and] at hJ;refine kQ0 [0,1,12,13] ?_;refine kA2 ?_;refine WL.nil (A4 (n1 - (k+1)) [(13,.int .i64 (k+1))] (h'':=h) (by omega) ?_ Su Sb ⟨k+1,⟨by omega,hJ⟩,rfl,rfl,rfl⟩);exact Su;replace c14:=dF c14;refine kQ0 [] ?_;refine kQ1 [4] ?_;refine wT h ?_;exact⟨by rw[hJ,List.drop_eq_nil_of_le (by omega),List.drop_eq_nil_of_le (by omega)];rfl,rfl⟩
theorem b0F (s1 s2:Option Addr) (n1 c1 n2 c2:Nat) (xs ys:List _) (h:List Res) (m:View) (h1:Rd m h s1 n1 c1 1 (fl encB xs)) (h2:Rd m h s2 n2 c2 1 (fl encB ys)) :
 CT Tryz.prog 213 [.slice s1 n1 c1,.slice s2 n2 c2] h m (A3 h (.bool (eqL eqS xs ys))):=by
 have l1:=h1.lenF C4 (by decide);have l2:=h2.lenF C4 (by decide);have m1:=h1.mx;have m2:=h2.mx;have k1:=h1.le;have k2:=h2.le;refine CT.body Tryz.call213 Tryz.func213 rfl Tryz.ntmps213 Lb rfl ?_;refine kQ1 [0,1] ?_;refine kQ5 [0,1,10] ?_;refine wc (fun c10=>?_) fun c10=>?_
 replace c10:=a1i c10;refine kQ1 [4] ?_;refine wT h ?_;exact⟨by rw[P3 _ _ _ (by omega)],rfl⟩;replace c10:=a0U c10;refine kQ0 [0,1] ?_;refine kQ3 [0,1,12,13] ?_;refine B0 [0,1,12] rfl (fun μ F' h'=>∃ k:Nat,(k<=n1/\eqL eqS xs ys=eqL eqS (xs.drop k) (ys.drop k))/\n1 - k=μ/\F'=[(13,.int .i64 k)]/\h=h') (n1 - 0) [(13,.int .i64 0)] (h0:=h) ?_ Sb ⟨0,⟨by omega,by simp⟩,rfl,rfl,rfl⟩ ?_;exact Su;rintro _ _ _ ⟨k,⟨hk,hJ⟩,rfl,rfl,rfl⟩;refine B1 rfl ?_;refine kQ1 [0,1,12,13,14] ?_;refine wc (fun c14=>?_) fun c14=>?_
 replace c14:=dT c14;obtain⟨x,hx⟩:=A5 (l:=xs) (k:=k) (by omega);obtain⟨y,hy⟩:=A5 (l:=ys) (k:=k) (by omega);rw[N9 _ hx hy] at hJ;refine kQ0 [0,1,12,13] ?_;refine kQ2 [0,1,5,12,13] ?_;refine dS [] (.op 0 (.op 1 (.op 2 (.op 3 (.op 4 (.op 5 (.op 6 (.op 7 .nil)))))))) [8] D6 ?_;refine kA8 ?_;refine SR.nil rfl rfl ?_;refine xG (P2 Et Et) ?_;refine kQ0 [0,1,12,13,24] ?_;refine wc (fun c24=>?_) fun c24=>?_
 refine kQ1 [4] ?_;refine wT h ?_;exact⟨by rw[hJ,c2D c24];rfl,rfl⟩;rw[c2v c24,Bool.true_and] at hJ;refine kQ0 [0,1,12,13] ?_;refine kA2 ?_;refine WL.nil (A4 (n1 - (k+1)) [(13,.int .i64 (k+1))] (h'':=h) (by omega) ?_ Su Sb ⟨k+1,⟨by omega,hJ⟩,rfl,rfl,rfl⟩);exact Su;replace c14:=dF c14;refine kQ0 [] ?_;refine kQ1 [4] ?_;refine wT h ?_;exact⟨by rw[hJ,List.drop_eq_nil_of_le (by omega),List.drop_eq_nil_of_le (by omega)];rfl,rfl⟩
theorem b0A (s1 s2:Option Addr) (n1 c1 n2 c2:Nat) (xs ys:List _) (h:List Res) (m:View) (h1:Rd m h s1 n1 c1 6 (fl foE xs)) (h2:Rd m h s2 n2 c2 6 (fl foE ys)) :
 CT Tryz.prog 215 [.slice s1 n1 c1,.slice s2 n2 c2] h m (A3 h (.bool (eqL a1p xs ys))):=by
 have l1:=h1.lenF a3G (by decide);have l2:=h2.lenF a3G (by decide);have m1:=h1.mx;have m2:=h2.mx;have k1:=h1.le;have k2:=h2.le;refine CT.body Tryz.call215 Tryz.func215 rfl Tryz.ntmps215 Lb rfl ?_;refine kQ1 [0,1] ?_;refine kQ5 [0,1,10] ?_;refine wc (fun c10=>?_) fun c10=>?_
 replace c10:=a1i c10;refine kQ1 [4] ?_;refine wT h ?_;exact⟨by rw[P3 _ _ _ (by omega)],rfl⟩;replace c10:=a0U c10;refine kQ0 [0,1] ?_;refine kQ3 [0,1,12,13] ?_;refine B0 [0,1,12] rfl (fun μ F' h'=>∃ k:Nat,(k<=n1/\eqL a1p xs ys=eqL a1p (xs.drop k) (ys.drop k))/\n1 - k=μ/\F'=[(13,.int .i64 k)]/\h=h') (n1 - 0) [(13,.int .i64 0)] (h0:=h) ?_ Sb ⟨0,⟨by omega,by simp⟩,rfl,rfl,rfl⟩ ?_;exact Su;rintro _ _ _ ⟨k,⟨hk,hJ⟩,rfl,rfl,rfl⟩;refine B1 rfl ?_;refine kQ1 [0,1,12,13,14] ?_;refine wc (fun c14=>?_) fun c14=>?_
 replace c14:=dT c14;obtain⟨x,hx⟩:=A5 (l:=xs) (k:=k) (by omega);obtain⟨y,hy⟩:=A5 (l:=ys) (k:=k) (by omega);rw[N9 _ hx hy] at hJ;refine kQ0 [0,1,12,13] ?_;refine kQ2 [0,1,5,12,13] ?_;refine dS [] (.op 0 (.op 1 (.op 2 (.op 3 (.op 4 (.op 5 (.op 6 (.op 7 .nil)))))))) [8] D6 ?_;refine kA8 ?_;refine SR.nil rfl rfl ?_;refine xG (b1o (o:=37) b3j (by kernel_rfl) (by kernel_rfl) Et Et (by kernel_rfl) rfl) ?_;refine kQ0 [0,1,12,13,24] ?_;refine wc (fun c24=>?_) fun c24=>?_
 refine kQ1 [4] ?_;refine wT h ?_;exact⟨by rw[hJ,c00 c24];rfl,rfl⟩;rw[b9H c24,Bool.true_and] at hJ;refine kQ0 [0,1,12,13] ?_;refine kA2 ?_;refine WL.nil (A4 (n1 - (k+1)) [(13,.int .i64 (k+1))] (h'':=h) (by omega) ?_ Su Sb ⟨k+1,⟨by omega,hJ⟩,rfl,rfl,rfl⟩);exact Su;replace c14:=dF c14;refine kQ0 [] ?_;refine kQ1 [4] ?_;refine wT h ?_;exact⟨by rw[hJ,List.drop_eq_nil_of_le (by omega),List.drop_eq_nil_of_le (by omega)];rfl,rfl⟩
theorem c3e {m:View} {h:List Res} (x y:Vr) (hx:VOk m h x) (hy:VOk m h y):CT Tryz.prog 211 [.agg (encV x).toArray,.agg (encV y).toArray] h m (A3 h (.bool (R5 x y))):=by
 have r1:=hx.rd;have r2:=hy.rd;have hi:=b3r a9s x.items y.items;refine CT.body Tryz.call211 Tryz.func211 rfl Tryz.ntmps211 Lb rfl ?_;refine j0 ?_;refine xX fun b2=>?_
 refine xX fun b3=>?_
 refine kQ1 [2,3] ?_;refine kA4 ?_;refine xG (M6 Et Et) ?_;refine kA5 ?_;refine A7 (GU.t rfl rfl) (fun hc=>⟨Ef,(E2 (Eg hc) (Eg hc)),b0X _ _ _ _ _ _ _ _ _ _ Rr Rr⟩) Lb ?_;refine kQ2 [4] ?_;refine wT h ?_;exact⟨by unfold R5;rw[<- hi],rfl⟩
theorem b9o (q:FuncId) (pr:Vr->Vr->Bool) (s1 s2:Option Addr) (n1 c1 n2 c2:Nat) (xs ys:List Vr) (h:List Res) (m:View) (h1:Rd m h s1 n1 c1 2 (fl encV xs)) (h2:Rd m h s2 n2 c2 2 (fl encV ys))
 (hq:∀ x ∈ xs,∀ y ∈ ys,∀ h',h.Sublist h'->CT Tryz.prog q ([]++[.agg (encV x).toArray,.agg (encV y).toArray]++[]) h' m (A3 h' (.bool (pr x y)))) :
 CT Tryz.prog 214 [.slice s1 n1 c1,.slice s2 n2 c2,.func (.func q) #[] #[]] h m (A3 h (.bool (eqL pr xs ys))):=by
 have l1:=h1.lenF D7 (by decide);have l2:=h2.lenF D7 (by decide);have m1:=h1.mx;have m2:=h2.mx;have k1:=h1.le;have k2:=h2.le;refine CT.body Tryz.call214 Tryz.func214 rfl Tryz.ntmps214 Lb rfl ?_;refine kQ1 [0,1,2] ?_;refine kQ5 [0,1,2,14] ?_;refine wc (fun c14=>?_) fun c14=>?_
 replace c14:=a1i c14;refine kQ1 [6] ?_;refine wT h ?_;exact⟨by rw[P3 _ _ _ (by omega)],rfl⟩;replace c14:=a0U c14;refine kQ0 [0,1,2] ?_;refine kQ3 [1,2,15,16,17] ?_;refine B0 [1,2,15,16] rfl (fun μ F' h'=>∃ k:Nat,(k<=n1/\eqL pr xs ys=eqL pr (xs.drop k) (ys.drop k))/\n1 - k=μ/\F'=[(17,.int .i64 k)]/\h=h') (n1 - 0) [(17,.int .i64 0)] (h0:=h) ?_ Sb ⟨0,⟨by omega,by simp⟩,rfl,rfl,rfl⟩ ?_;exact Su;rintro _ _ _ ⟨k,⟨hk,hJ⟩,rfl,rfl,rfl⟩;refine B1 rfl ?_;refine kQ1 [1,2,15,16,17,18] ?_;refine wc (fun c18=>?_) fun c18=>?_
 replace c18:=dT c18;obtain⟨x,hx⟩:=A5 (l:=xs) (k:=k) (by omega);obtain⟨y,hy⟩:=A5 (l:=ys) (k:=k) (by omega);rw[N9 _ hx hy] at hJ;refine kQ0 [1,2,15,16,17] ?_;refine kA3 ?_;refine xW fun b8=>?_
 refine kQ2 [1,2,7,8,15,16,17] ?_;refine kA4 ?_;refine xW fun b9=>?_
 refine kQ1 [1,2,8,9,15,16,17] ?_;refine kA3 ?_;refine M4 (Ev.tmp rfl) (E2 (Ev.tmp rfl) (Ev.tmp rfl)) (hq x (List.mem_of_getElem? hx) y (List.mem_of_getElem? hy) _ Sb) Lb ?_;refine kQ1 [1,2,15,16,17,30] ?_;refine wc (fun c30=>?_) fun c30=>?_
 have d30:pr x y=false:=by simpa using c30
 rw[d30] at hJ;refine kQ1 [6] ?_;refine wT h ?_;exact⟨by rw[hJ];rfl,rfl⟩;have d30:pr x y=true:=by simpa using c30
 rw[d30,Bool.true_and] at hJ;refine kQ0 [1,2,15,16,17] ?_;refine kA2 ?_;refine WL.nil (A4 (n1 - (k+1)) [(17,.int .i64 (k+1))] (h'':=h) (by omega) ?_ Su Sb ⟨k+1,⟨by omega,hJ⟩,rfl,rfl,rfl⟩);exact Su;replace c18:=dF c18;refine kQ0 [] ?_;refine kQ1 [6] ?_;refine wT h ?_;exact⟨by rw[hJ,List.drop_eq_nil_of_le (by omega),List.drop_eq_nil_of_le (by omega)];rfl,rfl⟩
theorem b9q (q:FuncId) (pr:Pr->Pr->Bool) (s1 s2:Option Addr) (n1 c1 n2 c2:Nat) (xs ys:List Pr) (h:List Res) (m:View) (h1:Rd m h s1 n1 c1 42 (fl prE xs)) (h2:Rd m h s2 n2 c2 42 (fl prE ys))
 (hq:∀ x ∈ xs,∀ y ∈ ys,∀ h',h.Sublist h'->CT Tryz.prog q ([]++[prV x,prV y]++[]) h' m (A3 h' (.bool (pr x y)))) :
 CT Tryz.prog 188 [.slice s1 n1 c1,.slice s2 n2 c2,.func (.func q) #[] #[]] h m (A3 h (.bool (eqL pr xs ys))):=by
 have l1:=h1.lenF a1B (by decide);have l2:=h2.lenF a1B (by decide);have m1:=h1.mx;have m2:=h2.mx;have k1:=h1.le;have k2:=h2.le;refine CT.body Tryz.call188 Tryz.func188 rfl Tryz.ntmps188 Lb rfl ?_;refine kQ1 [0,1,2] ?_;refine kQ5 [0,1,2,14] ?_;refine wc (fun c14=>?_) fun c14=>?_
 replace c14:=a1i c14;refine kQ1 [6] ?_;refine wT h ?_;exact⟨by rw[P3 _ _ _ (by omega)],rfl⟩;replace c14:=a0U c14;refine kQ0 [0,1,2] ?_;refine kQ3 [1,2,15,16,17] ?_;refine B0 [1,2,15,16] rfl (fun μ F' h'=>∃ k:Nat,(k<=n1/\eqL pr xs ys=eqL pr (xs.drop k) (ys.drop k))/\n1 - k=μ/\F'=[(17,.int .i64 k)]/\h=h') (n1 - 0) [(17,.int .i64 0)] (h0:=h) ?_ Sb ⟨0,⟨by omega,by simp⟩,rfl,rfl,rfl⟩ ?_;exact Su;rintro _ _ _ ⟨k,⟨hk,hJ⟩,rfl,rfl,rfl⟩;refine B1 rfl ?_;refine kQ1 [1,2,15,16,17,18] ?_;refine wc (fun c18=>?_) fun c18=>?_
 replace c18:=dT c18;obtain⟨x,hx⟩:=A5 (l:=xs) (k:=k) (by omega);obtain⟨y,hy⟩:=A5 (l:=ys) (k:=k) (by omega);rw[N9 _ hx hy] at hJ;refine kQ0 [1,2,15,16,17] ?_;refine kA3 ?_;refine xW fun b8=>?_
 refine kQ2 [1,2,7,8,15,16,17] ?_;refine kA4 ?_;refine xW fun b9=>?_
 refine kQ1 [1,2,8,9,15,16,17] ?_;refine kA3 ?_;refine M4 (Ev.tmp rfl) (E2 (Ev.tmp rfl) (Ev.tmp rfl)) (hq x (List.mem_of_getElem? hx) y (List.mem_of_getElem? hy) _ Sb) Lb ?_;refine kQ1 [1,2,15,16,17,30] ?_;refine wc (fun c30=>?_) fun c30=>?_
 have d30:pr x y=false:=by simpa using c30
 rw[d30] at hJ;refine kQ1 [6] ?_;refine wT h ?_;exact⟨by rw[hJ];rfl,rfl⟩;have d30:pr x y=true:=by simpa using c30
 rw[d30,Bool.true_and] at hJ;refine kQ0 [1,2,15,16,17] ?_;refine kA2 ?_;refine WL.nil (A4 (n1 - (k+1)) [(17,.int .i64 (k+1))] (h'':=h) (by omega) ?_ Su Sb ⟨k+1,⟨by omega,hJ⟩,rfl,rfl,rfl⟩);exact Su;replace c18:=dF c18;refine kQ0 [] ?_;refine kQ1 [6] ?_;refine wT h ?_;exact⟨by rw[hJ,List.drop_eq_nil_of_le (by omega),List.drop_eq_nil_of_le (by omega)];rfl,rfl⟩
structure SRd (m:View) (h:List Res) (s:Sp):Prop where
 b:Rd m h s.ba s.bl.length s.bc 42 (fl prE s.bl)
 nr:Rd m h s.names.a s.names.l.length s.names.c 1 (fl encB s.names.l)
 e:TOk m h s.e
 v:PrOk m h s.vs.a s.vs.l.length s.vs.c s.vs.l
 fr:Rd m h s.fs.a s.fs.l.length s.fs.c 6 (fl foE s.fs.l)
theorem SRd.mono {m:View} {h h':List Res} {s:Sp} (q:SRd m h s) (r:h.Sublist h'):SRd m h' s:=⟨q.b.mono Vl r,q.nr.mono Vl r,q.e.mono r,q.v.mono Vl r,q.fr.mono Vl r⟩
theorem SRd.of {m:View} {h:List Res} {s:Sp} (q:SOk m h s):SRd m h s:=⟨q.b,q.nr,q.e.t,q.v,q.fr⟩
set_option maxHeartbeats 1000000 in
theorem a9d {m:View} {h:List Res} (x y:Sp) (hx:SRd m h x) (hy:SRd m h y):CT Tryz.prog 146 [spV x,spV y] h m (A3 h (.bool (Y8 x y))):=by
 have n1:=hx.nr;have n2:=hy.nr;have f1:=hx.fr;have f2:=hy.fr;have v1:=hx.v.rd;have v2:=hy.v.rd;refine CT.body Tryz.call146 Tryz.func146 rfl Tryz.ntmps146 Lb rfl ?_;refine j0 ?_;refine xX fun b2=>?_
 refine xX fun b3=>?_
 refine kQ1 [2,3] ?_;refine xG (PO.assign Ef) ?_;refine kQ0 [2,3,5] ?_;refine a9N ?_;refine F6 (GU.t rfl rfl) (fun hc=>a0f a9m (by kernel_rfl) (by kernel_rfl) (Eg hc) (Eg hc) rfl) Lb ?_;refine kA6 ?_;refine A7 (GU.t rfl rfl) (fun hc=>⟨Ef,(E2 (Eg hc) (Eg hc)),CT.val (b0F _ _ _ _ _ _ x.names.l y.names.l _ _ (n1.mono Vl Sb) (n2.mono Vl Sb)) (congrArg Value.bool (b3r b9j x.names.l y.names.l))⟩) Lb ?_;refine kA6 ?_;refine A7 (GU.t rfl rfl) (fun hc=>⟨Ef,(E2 (Eg hc) (Eg hc)),b3M x.e y.e _ _ (hx.e.mono Sb) (hy.e.mono Sb)⟩) Lb ?_;refine kA8 ?_;refine zG (fun hc=>b9h uu4 (Eg hc) (Eg hc)) ?_;refine kA9 ?_;refine A7 (GU.t rfl rfl) (fun hc=>⟨Ef,(E3 (Eg hc) (Eg hc) (Eg hc)),b9o 211 R5 _ _ _ _ _ _ x.vs.l y.vs.l _ _ (v1.mono Vl Sb) (v2.mono Vl Sb) (fun u hu w hw h' hh=>c3e u w ((hx.v.ok u hu).mono Vl (List.Sublist.trans Sb hh)) ((hy.v.ok w hw).mono Vl (List.Sublist.trans Sb hh)))⟩) Lb ?_;refine kA6 ?_
 refine A7 (GU.t rfl rfl) (fun hc=>⟨Ef,(E2 (Eg hc) (Eg hc)),b0A _ _ _ _ _ _ _ _ _ _ Rr Rr⟩) Lb ?_;refine c0H [4] ?_;refine wT h ?_;exact⟨rfl,rfl⟩
theorem b1b (m:View) (h:List Res):SRd m h D2:=⟨Rd.nilF prE 42 m h,Rd.nilF encB 1 m h,a7V m h,⟨Rd.nilF encV 2 m h,fun _ hv=>(by cases hv),fun _ hv=>(by cases hv)⟩,Rd.nilF foE 6 m h⟩
theorem b6u {m:View} {h:List Res} (x:Sp) (hx:SRd m h x):CT Tryz.prog 126 [spV x,spV D2] h m (A3 h (.bool (Y8 x D2))):=by
 refine CT.body Tryz.call126 Tryz.func126 rfl Tryz.ntmps126 Lb rfl ?_;refine j0 ?_;refine xX fun b2=>?_
 refine xX fun b3=>?_
 refine kQ1 [2,3] ?_;refine kA2 ?_;refine xf (E2 Et Et) (a9d x D2 (hx.mono Sb) (b1b _ _)) ?_;refine kA5 ?_;refine A7 (GU.t rfl rfl) (fun hc=>⟨Ef,(E3 (Eg hc) (Eg hc) Ef),CT.val (b9q 189 (fun _ _=>true) _ _ _ _ _ _ x.bl [] _ _ (hx.b.mono Vl Sb) (Rd.nilF prE 42 _ _) (fun _ _ y hy=>by cases hy)) (congrArg Value.bool (by rw[c0T hc]))⟩) Lb ?_;refine kQ2 [4] ?_;refine wT h ?_;exact⟨congrArg Value.bool (Bool.and_true _),rfl⟩
end
end Go.Proofs.YtmhkeomphdddaaaGreatDoor

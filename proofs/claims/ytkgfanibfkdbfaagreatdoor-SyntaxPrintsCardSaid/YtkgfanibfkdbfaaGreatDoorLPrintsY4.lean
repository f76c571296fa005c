import Derived.Test.YtkgfanibfkdbfaaGreatDoorLPrintsY3
import Derived.Test.YtkgfanibfkdbfaaGreatDoorProg
import Derived.Test.YtkgfanibfkdbfaaGreatDoorShelfS
import Derived.Test.YtkgfanibfkdbfaaGreatDoorRows
set_option maxRecDepth 100000
set_option maxHeartbeats 4000000
namespace Go.Proofs.YtkgfanibfkdbfaaGreatDoor
open Go.Proofs.Tryz
section
set_option linter.defProp false
abbrev uu2:=Tryz.underlying2
@[reducible,instance]def i2:=Go.Eng.Ud.mk uu2
abbrev uu3:=Tryz.underlying3
@[reducible,instance]def i3:=Go.Eng.Ud.mk uu3
abbrev uu4:=Tryz.underlying4
@[reducible,instance]def i4:=Go.Eng.Ud.mk uu4
abbrev uu5:=Tryz.underlying5
@[reducible,instance]def i5:=Go.Eng.Ud.mk uu5
abbrev uu9:=Tryz.underlying9
@[reducible,instance]def i9:=Go.Eng.Ud.mk uu9
abbrev c3w:=Tryz.underlying20
@[reducible,instance]def i20:=Go.Eng.Ud.mk c3w
abbrev a1X:=Tryz.underlying21
@[reducible,instance]def i21:=Go.Eng.Ud.mk a1X
abbrev c8X:=Tryz.underlying22
@[reducible,instance]def i22:=Go.Eng.Ud.mk c8X
abbrev c9L:=Tryz.underlying23
@[reducible,instance]def i23:=Go.Eng.Ud.mk c9L
abbrev c7e:=Tryz.underlying24
@[reducible,instance]def i24:=Go.Eng.Ud.mk c7e
abbrev b6V:=Tryz.underlying25
@[reducible,instance]def i25:=Go.Eng.Ud.mk b6V
abbrev c5y:=Tryz.underlying26
@[reducible,instance]def i26:=Go.Eng.Ud.mk c5y
abbrev a2i:=Tryz.underlying28
@[reducible,instance]def i28:=Go.Eng.Ud.mk a2i
abbrev c6j:=Tryz.underlying30
@[reducible,instance]def i30:=Go.Eng.Ud.mk c6j
abbrev c9z:=Tryz.underlying31
@[reducible,instance]def i31:=Go.Eng.Ud.mk c9z
abbrev c6t:=Tryz.underlying32
@[reducible,instance]def i32:=Go.Eng.Ud.mk c6t
abbrev c9l:=Tryz.underlying33
@[reducible,instance]def i33:=Go.Eng.Ud.mk c9l
abbrev c9i:=Tryz.underlying34
@[reducible,instance]def i34:=Go.Eng.Ud.mk c9i
abbrev a8H:=Tryz.underlying36
@[reducible,instance]def i36:=Go.Eng.Ud.mk a8H
abbrev c9A:=Tryz.underlying37
@[reducible,instance]def i37:=Go.Eng.Ud.mk c9A
abbrev c6l:=Tryz.underlying38
@[reducible,instance]def i38:=Go.Eng.Ud.mk c6l
abbrev b9P:=Tryz.underlying40
@[reducible,instance]def i40:=Go.Eng.Ud.mk b9P
abbrev c9d:=Tryz.underlying41
@[reducible,instance]def i41:=Go.Eng.Ud.mk c9d
abbrev a7B:=Tryz.underlying43
@[reducible,instance]def i43:=Go.Eng.Ud.mk a7B
abbrev S9:=Tryz.underlying45
@[reducible,instance]def i45:=Go.Eng.Ud.mk S9
abbrev b7j:=Tryz.underlying46
@[reducible,instance]def i46:=Go.Eng.Ud.mk b7j
abbrev c00:=Tryz.underlying47
@[reducible,instance]def i47:=Go.Eng.Ud.mk c00
abbrev b2K:=Tryz.underlying52
@[reducible,instance]def i52:=Go.Eng.Ud.mk b2K
abbrev d05:=Tryz.underlying62
@[reducible,instance]def i62:=Go.Eng.Ud.mk d05
abbrev d0q:=Tryz.underlying64
@[reducible,instance]def i64:=Go.Eng.Ud.mk d0q
abbrev a4J:=Tryz.underlying68
@[reducible,instance]def i68:=Go.Eng.Ud.mk a4J
abbrev c7c:=Tryz.underlying70
@[reducible,instance]def i70:=Go.Eng.Ud.mk c7c
abbrev c8p:=Tryz.underlying76
@[reducible,instance]def i76:=Go.Eng.Ud.mk c8p
abbrev d0j:=Tryz.underlying90
@[reducible,instance]def i90:=Go.Eng.Ud.mk d0j
abbrev b4X:=Tryz.underlying95
@[reducible,instance]def i95:=Go.Eng.Ud.mk b4X
abbrev M4:=Tryz.underlying97
@[reducible,instance]def i97:=Go.Eng.Ud.mk M4
abbrev b8U:=Tryz.underlying98
@[reducible,instance]def i98:=Go.Eng.Ud.mk b8U
abbrev a3w:=Tryz.underlying100
@[reducible,instance]def i100:=Go.Eng.Ud.mk a3w
abbrev c6U:=Tryz.underlying102
@[reducible,instance]def i102:=Go.Eng.Ud.mk c6U
abbrev b8K:=Tryz.underlying114
@[reducible,instance]def i114:=Go.Eng.Ud.mk b8K
abbrev b2i:=Tryz.underlying129
@[reducible,instance]def i129:=Go.Eng.Ud.mk b2i
abbrev a9J:=Tryz.underlying139
@[reducible,instance]def i139:=Go.Eng.Ud.mk a9J
abbrev a7p:=Tryz.underlying141
@[reducible,instance]def i141:=Go.Eng.Ud.mk a7p
abbrev c9W:=Tryz.underlying146
@[reducible,instance]def i146:=Go.Eng.Ud.mk c9W
abbrev c6B:=Tryz.underlying148
@[reducible,instance]def i148:=Go.Eng.Ud.mk c6B
abbrev a4Q:=Tryz.underlying162
@[reducible,instance]def i162:=Go.Eng.Ud.mk a4Q
abbrev c0A:=Tryz.underlying165
@[reducible,instance]def i165:=Go.Eng.Ud.mk c0A
abbrev c6F:=Tryz.underlying166
@[reducible,instance]def i166:=Go.Eng.Ud.mk c6F
abbrev X4:=Tryz.underlying190
@[reducible,instance]def i190:=Go.Eng.Ud.mk X4
abbrev a0i:=Tryz.underlying192
@[reducible,instance]def i192:=Go.Eng.Ud.mk a0i
abbrev c6z:=Tryz.underlying196
@[reducible,instance]def i196:=Go.Eng.Ud.mk c6z
abbrev b5w:=Tryz.underlying226
@[reducible,instance]def i226:=Go.Eng.Ud.mk b5w
abbrev c9s:=Tryz.underlying241
@[reducible,instance]def i241:=Go.Eng.Ud.mk c9s
abbrev c6T:=Tryz.underlying247
@[reducible,instance]def i247:=Go.Eng.Ud.mk c6T
abbrev c9B:=Tryz.underlying261
@[reducible,instance]def i261:=Go.Eng.Ud.mk c9B
abbrev c6V:=Tryz.underlying266
@[reducible,instance]def i266:=Go.Eng.Ud.mk c6V
abbrev b4M:=Tryz.underlying313
@[reducible,instance]def i313:=Go.Eng.Ud.mk b4M
abbrev a8m:=Tryz.underlying314
@[reducible,instance]def i314:=Go.Eng.Ud.mk a8m
abbrev b8r:=Tryz.underlying317
@[reducible,instance]def i317:=Go.Eng.Ud.mk b8r
abbrev b5D:=Tryz.underlying318
@[reducible,instance]def i318:=Go.Eng.Ud.mk b5D
abbrev c3O:=Tryz.underlying321
@[reducible,instance]def i321:=Go.Eng.Ud.mk c3O
abbrev b1z:=Tryz.underlying325
@[reducible,instance]def i325:=Go.Eng.Ud.mk b1z
abbrev c3F:=Tryz.underlying329
@[reducible,instance]def i329:=Go.Eng.Ud.mk c3F
abbrev c2W:=Tryz.underlying351
@[reducible,instance]def i351:=Go.Eng.Ud.mk c2W
abbrev c3y:=Tryz.underlying354
@[reducible,instance]def i354:=Go.Eng.Ud.mk c3y
abbrev c6N:=Tryz.underlying358
@[reducible,instance]def i358:=Go.Eng.Ud.mk c6N
abbrev c6G:=Tryz.underlying364
@[reducible,instance]def i364:=Go.Eng.Ud.mk c6G
end
section
open Go.Eng Go
theorem C4:Tryz.prog.follows .mixedOrders=true:=by kernel_rfl
theorem Q1:EL prog 26 28 6 48:=⟨_,_,rfl,rfl,rfl,rfl,rfl,rfl,by decide⟩
set_option linter.defProp false in
@[reducible,instance]def iEL26:=Go.Eng.Es.mk Q1
theorem b2Y:EL prog 31 100 23 240:=⟨_,_,rfl,rfl,rfl,rfl,rfl,rfl,by decide⟩
set_option linter.defProp false in
@[reducible,instance]def iEL31:=Go.Eng.Es.mk b2Y
theorem T9:EL prog 32 45 42 504:=⟨_,_,rfl,rfl,rfl,rfl,rfl,rfl,by decide⟩
set_option linter.defProp false in
@[reducible,instance]def iEL32:=Go.Eng.Es.mk T9
theorem b2W:EL prog 33 3 1 8:=⟨_,_,rfl,rfl,rfl,rfl,rfl,rfl,by decide⟩
set_option linter.defProp false in
@[reducible,instance]def iEL33:=Go.Eng.Es.mk b2W
theorem P6:EL prog 37 9 1 16:=⟨_,_,rfl,rfl,rfl,rfl,rfl,rfl,by decide⟩
set_option linter.defProp false in
@[reducible,instance]def iEL37:=Go.Eng.Es.mk P6
theorem a0m:EL prog 38 141 2 40:=⟨_,_,rfl,rfl,rfl,rfl,rfl,rfl,by decide⟩
set_option linter.defProp false in
@[reducible,instance]def iEL38:=Go.Eng.Es.mk a0m
theorem b6Z:EL prog 41 129 6 64:=⟨_,_,rfl,rfl,rfl,rfl,rfl,rfl,by decide⟩
set_option linter.defProp false in
@[reducible,instance]def iEL41:=Go.Eng.Es.mk b6Z
theorem a0J:EL prog 46 52 3 32:=⟨_,_,rfl,rfl,rfl,rfl,rfl,rfl,by decide⟩
set_option linter.defProp false in
@[reducible,instance]def iEL46:=Go.Eng.Es.mk a0J
theorem a3g:EL prog 64 70 2 32:=⟨_,_,rfl,rfl,rfl,rfl,rfl,rfl,by decide⟩
set_option linter.defProp false in
@[reducible,instance]def iEL64:=Go.Eng.Es.mk a3g
theorem B3:EL prog 68 97 4 40:=⟨_,_,rfl,rfl,rfl,rfl,rfl,rfl,by decide⟩
set_option linter.defProp false in
@[reducible,instance]def iEL68:=Go.Eng.Es.mk B3
theorem b8y:EL prog 139 25 1 1:=⟨_,_,rfl,rfl,rfl,rfl,rfl,rfl,by decide⟩
set_option linter.defProp false in
@[reducible,instance]def iEL139:=Go.Eng.Es.mk b8y
theorem H9:EL prog 146 68 1 24:=⟨_,_,rfl,rfl,rfl,rfl,rfl,rfl,by decide⟩
set_option linter.defProp false in
@[reducible,instance]def iEL146:=Go.Eng.Es.mk H9
theorem c6I:EL prog 226 5 1 1:=⟨_,_,rfl,rfl,rfl,rfl,rfl,rfl,by decide⟩
set_option linter.defProp false in
@[reducible,instance]def iEL226:=Go.Eng.Es.mk c6I
theorem b2B:EL prog 261 98 1 1:=⟨_,_,rfl,rfl,rfl,rfl,rfl,rfl,by decide⟩
set_option linter.defProp false in
@[reducible,instance]def iEL261:=Go.Eng.Es.mk b2B
def c6K:List Value:=[.int .u8 1,str [73,78,84],.int .i64 4,.int .u8 2,str [66,89,84,69],.int .i64 1,.int .u8 3,str [66,79,79,76],.int .i64 1]
def b0s:List Value:=[.int .i64 1,.int .i64 1]
def a8y:List Value:=[.int .i64 1,.int .i64 8]
def c5w:List Value:=[.int .i64 0,.int .i64 2048]
structure Glob(m:View):Prop where
 max:∃x,m.cell ⟨4,0,none⟩=some (.int .i64 x)
 prim:∀j v,c6K[j]?=some v->m.cell ⟨3,j,none⟩=some v
 sOne:∀j v,b0s[j]?=some v->m.cell ⟨1,j,none⟩=some v
 sSome:∀j v,a8y[j]?=some v->m.cell ⟨2,j,none⟩=some v
 sAll:∀j v,c5w[j]?=some v->m.cell ⟨0,j,none⟩=some v
theorem a1P{m:View}(hg:Glob m)(a b:List UInt8)(ha:a.length<4294967281)(h:List Res):CT prog 81 [str a,str b] h m (A7 h (.bool (Lib.contains a b))):=by obtain⟨x,hx⟩:=hg.max;exact CT.ofCalls call81 λw st=>Tryz.strings_Contains ⟨a.toArray⟩ ⟨b.toArray⟩ x w ha (st.cell hx)
end
section
open Go.Eng Go.Lx
theorem a5Y(z:Int)(h:List Res)(m:View):CT prog 228 [.int .u8 z] h m (A7 h (.bool (ltr z))):=by
 refine cB [0,2] func228 λ_=>?_;refine ZZ [1,12] ?_;refine zG (λhc=>Q2 hc rfl rfl) ?_;refine Z2 ?_;refine wT h ?_;exact⟨rfl,rfl⟩
theorem a9L(z:Int)(h:List Res)(m:View):CT prog 250 [.int .u8 z] h m (A7 h (.bool (dig z))):=by
 refine cB [0,2] func250 λ_=>?_;refine ZZ [1,7,0] ?_;refine wT h ?_;exact⟨rfl,rfl⟩
theorem a7T(s:B)(h:List Res)(m:View)(hs:s.length<=9223372036854775807):CT prog 150 [str s] h m (A7 h (.int .i64 (run s))):=by
 refine cB [0,2,3,5,6,7,26] func150 λ_=>?_;refine ZZ [1,1] ?_;refine xG (I8 uu9 Et) ?_;refine Z1 ?_;refine B1 [0,5] rfl (λμ F' h'=>∃k:Nat,(k<=s.length/\run s=k+run (s.drop k))/\s.length-k=μ/\F'=[(6,.int .i64 k)]/\h=h') (s.length-0) [(6,.int .i64 0)] (h0:=h) ?_ Sb ⟨0,⟨by omega,by simp⟩,rfl,rfl,rfl⟩ ?_;exact Su;rintro _ _ _ ⟨k,⟨hk,hJ⟩,rfl,rfl,rfl⟩;refine B2 rfl ?_;refine Z1 ?_;refine wD ?_ ?_<;>intro c7
 obtain⟨c,hc⟩:=A5 (l:=s) (k:=k) (by omega);have hr:=c3h hc;refine ZZ [0,2,2] ?_;refine xG (I9 uu9 Et Et rfl (by assumption)) ?_;refine xf (E1 Et) (a5Y _ _ _) ?_;refine kA4 ?_;refine zG (λhc=>I9 uu9 (Eg hc) (Eg hc) rfl (by assumption)) ?_;refine A4 (GU.t rfl rfl) (λhc=>⟨Ef,(E1 (Eg hc)),a9L _ _ _⟩) Lb ?_;refine kA5 ?_;refine zG (λhc=>I9 uu9 (Eg hc) (Eg hc) rfl (by assumption)) ?_;refine Z2 ?_;refine wc ?_ ?_<;>intro c26
 have w:wch c=false:=by unfold wch;rw[c26];rfl
 rw[w]at hr;refine Z2 ?_;refine wT h ?_;exact⟨by simp at hr;rw[hJ,hr];rfl,rfl⟩;have w:wch c=true:=by unfold wch;rw[c26];rfl
 rw[w]at hr;refine ZZ [0,2] ?_;refine WL.nil (A6 (s.length-(k+1)) [(6,.int .i64 (k+1))] (h'':=h) (by omega) ?_ Su Sb ⟨k+1,⟨by omega,by simp at hr;omega⟩,rfl,rfl,rfl⟩);exact Su;have e:k=s.length:=by omega
 subst e;have hr:run s=s.length:=by simpa [run]using hJ
 refine ZZ [0,1] ?_;refine xG (I8 uu9 Et) ?_;refine Z1 ?_;refine wT h ?_;exact⟨by rw[hr],rfl⟩
theorem a7X(s:B)(h:List Res)(m:View)(hg:Glob m)(hs:s.length<=140737488355328):CT prog 76 [str s] h m (A7 h (.bool (key s))):=by
 have hs':s.length<=9223372036854775807:=by omega
 refine cB [0,2] func76 λ_=>?_;refine ZZ [1,1] ?_;refine xG (S2 Et Ek) ?_;refine kA2 ?_;refine A4 (GU.t rfl rfl) (λhc=>⟨Ef,(E1 (Eg hc)),a7T _ _ _ (by assumption)⟩) Lb ?_;refine kA1 ?_;refine zG (λhc=>I8 uu9 (Eg hc)) ?_;refine kA4 ?_;refine E8 (GU.t rfl rfl) (λhc=>R2 Ek (Eg hc) (by simp;omega)) Lb ?_;refine E8 (GU.t rfl rfl) (λhc=>R2 (Eg hc) Ek (by simp;omega)) Lb ?_;refine A4 (GU.t rfl rfl) (λhc=>⟨Ef,(E2 Ek (Eg hc)),CT.argsE rfl (a1P hg a7n ([32]++s++[32]) (by decide) _)⟩) Lb ?_;refine Z2 ?_;refine wT h ?_;exact⟨rfl,rfl⟩
theorem a1d(s:B)(h:List Res)(m:View)(hg:Glob m)(hs:s.length<=9223372036854775807):CT prog 136 [str s] h m (A7 h (.bool (name s))):=by
 have hs':s.length<=9223372036854775807:=by omega
 cases s with
 |nil=>
  refine cB [0,2] func136 λ_=>?_;refine ZZ [1,1] ?_;refine xG (S2 Et Ek) ?_;refine kA2 ?_;refine zG (λhc=>I8 uu9 (Eg hc)) ?_;refine kA4 ?_;refine E8 (GU.t rfl rfl) (λhc=>I9 uu9 (Eg hc) Ek (q:=0) rfl (c:=0) (by simp at hc)) Lb ?_;refine A4 (GU.t rfl rfl) (λhc=>⟨Ef,(E1 (Eg hc)),a5Y _ _ _⟩) Lb ?_;refine kA3 ?_;refine A4 (GU.t rfl rfl) (λhc=>⟨Ef,(E1 (Eg hc)),a7T _ _ _ (by assumption)⟩) Lb ?_;refine kA1 ?_;refine zG (λhc=>I8 uu9 (Eg hc)) ?_;refine kA4 ?_;refine A4 (GU.t rfl rfl) (λhc=>⟨Ef,(E1 (Eg hc)),a7X _ _ _ hg (by decide)⟩) Lb ?_;refine Z3 ?_;refine wT h ?_;exact⟨rfl,rfl⟩
 |cons c s=>
  refine cB [0,2] func136 λ_=>?_;refine ZZ [1,1] ?_;refine xG (S2 Et Ek) ?_;refine kA2 ?_;refine zG (λhc=>I8 uu9 (Eg hc)) ?_;refine kA4 ?_;refine zG (λhc=>I9 uu9 (Eg hc) Ek (q:=0) rfl (c:=c) rfl) ?_;refine A4 (GU.t rfl rfl) (λhc=>⟨Ef,(E1 (Eg hc)),a5Y _ _ _⟩) Lb ?_;refine kA3 ?_;refine A4 (GU.t rfl rfl) (λhc=>⟨Ef,(E1 (Eg hc)),a7T _ _ _ (by assumption)⟩) Lb ?_;refine kA1 ?_;refine zG (λhc=>I8 uu9 (Eg hc)) ?_;refine kA4 ?_;refine A4 (GU.t rfl rfl) (λhc=>⟨Ef,(E1 (Eg hc)),a7X _ _ _ hg (by simp at hc;simp;omega)⟩) Lb ?_;refine Z3 ?_;refine wT h ?_;exact⟨rfl,rfl⟩
end
section
open Go.Eng Go.Lx
theorem a6r(z:Int)(h:List Res)(m:View):CT prog 169 [.int .u8 z] h m (A7 h (.bool (b9B z))):=by
 refine cB [0,2] func169 λ_=>?_;refine ZZ [1,12] ?_;refine zG (λhc=>Q2 hc rfl rfl) ?_;refine Z2 ?_;refine wT h ?_;exact⟨rfl,rfl⟩
theorem b9N(z:Int)(h:List Res)(m:View):CT prog 220 [.int .u8 z] h m (A7 h (.bool (dig z))):=by
 refine cB [0,2] func220 λ_=>?_;refine ZZ [1,7,0] ?_;refine wT h ?_;exact⟨rfl,rfl⟩
theorem c2w(z:Int)(h:List Res)(m:View):CT prog 170 [.int .u8 z] h m (A7 h (.bool (b3p z))):=by
 refine cB [0,2] func170 λ_=>?_;refine ZZ [1,1] ?_;refine xf (E1 Et) (a6r _ _ _) ?_;refine kA2 ?_;refine A4 (GU.f rfl rfl) (λhc=>⟨Ef,(E1 (Eg hc)),b9N _ _ _⟩) Lb ?_;refine Z6 ?_;refine wT h ?_;exact⟨rfl,rfl⟩
theorem b2q(s:B)(a:Option Addr)(k c:Nat)(l:List B)(h:List Res)(m:View)(hs:Rd m h a k c 1 (fl encB l)):CT prog 171 [str s,.slice a k c] h m (A7 h (.bool (a3R s l))):=by
 have hl:=hs.lenF encB_len (by decide);have hmx:=hs.mx;have hle:=hs.le;refine cB [0,1,4,5,9,17] func171 λ_=>?_;refine ZZ [1,1,0] ?_;refine B1 [0,1] rfl (λμ F' h'=>∃j:Nat,(j<=k/\a3R s l=a3R s (l.drop j))/\k-j=μ/\F'=[(5,.int .i64 j)]/\h=h') (k-0) [(5,.int .i64 0)] (h0:=h) ?_ Sb ⟨0,⟨by omega,rfl⟩,rfl,rfl,rfl⟩ ?_;exact Su;rintro _ _ _ ⟨j,⟨hk,hJ⟩,rfl,rfl,rfl⟩;refine B2 rfl ?_;refine Z4 ?_;refine wD ?_ ?_<;>intro c9
 obtain⟨x,hx⟩:=A5 (l:=l) (k:=j) (by omega);rw[b7u s hx]at hJ;refine ZZ [0,5] ?_;refine xG (H3 Et Et) ?_;refine Z0 ?_;refine wc ?_ ?_<;>intro c17
 rw[c17]at hJ;refine Z1 ?_;refine wT h ?_;exact⟨by rw[hJ];rfl,rfl⟩;rw[c17]at hJ;refine ZZ [0,3] ?_;refine WL.nil (A6 (k-(j+1)) [(5,.int .i64 (j+1))] (h'':=h) (by omega) ?_ Su Sb ⟨j+1,⟨by omega,by simpa using hJ⟩,rfl,rfl,rfl⟩);exact Su;rw[List.drop_eq_nil_of_le (by omega)]at hJ;refine ZZ [0,1,0] ?_;refine wT h ?_;exact⟨by rw[hJ];rfl,rfl⟩
theorem c3L(h:List Res)(m:View):CT prog 172 [] h m (λv _ h'=>∃b,v=.slice (some ⟨b,0,none⟩) 33 33/\h'=.pt b (.cells (fl encB a9t).toArray 9 (0,0))::h):=by
 refine cB [0] func172 λ_=>?_;refine Z1 ?_;refine xY P6 Eb λb1=>?_
 refine Z1 ?_;refine wT (.pt b1 (.cells (fl encB a9t).toArray 9 (0,0))::h) ?_;exact⟨b1,rfl,rfl⟩
theorem a8N(s:B)(h:List Res)(m:View):CT prog 96 [str s] h m (A7 h (.bool (c1p s))):=by
 refine cB [0,2] func96 λ_=>?_;refine ZZ [1,1] ?_;refine xg E0 (c3L _ _) ?_;rintro _ _ ⟨b4,rfl,rfl⟩;refine xf (E2 Et Et) (b2q _ _ _ _ a9t _ _ Rr) ?_;refine Z1 ?_;refine wT h ?_;exact⟨rfl,rfl⟩
theorem a06(s:B)(h:List Res)(m:View)(hs:s.length<=9223372036854775807):CT prog 95 [str s] h m (A7 h (.bool (nameR s))):=by
 have hs':s.length<=9223372036854775807:=by omega
 cases s with
 |nil=>
  refine cB [0,2,21] func95 λ_=>?_;refine ZZ [1,1] ?_;refine xG (I8 uu9 Et) ?_;refine kA3 ?_;refine zG (λhc=>I8 uu9 (Eg hc)) ?_;refine kA4 ?_;refine E8 (GU.f rfl rfl) (λhc=>I9 uu9 (Eg hc) Ek (q:=0) rfl (c:=0) (by simp at hc)) Lb ?_;refine A4 (GU.f rfl rfl) (λhc=>⟨Ef,(E1 (Eg hc)),a6r _ _ _⟩) Lb ?_;refine kA4 ?_;refine A4 (GU.f rfl rfl) (λhc=>⟨Ef,(E1 (Eg hc)),a8N _ _ _⟩) Lb ?_;refine Z1 ?_;refine wc ?_ ?_<;>intro c21
  refine Z1 ?_;refine wT h ?_;exact⟨rfl,rfl⟩;cases c21
 |cons c s=>
  refine cB [0,2,3,21,25,32] func95 λ_=>?_;refine ZZ [1,1] ?_;refine xG (I8 uu9 Et) ?_;refine kA3 ?_;refine zG (λhc=>I8 uu9 (Eg hc)) ?_;refine kA4 ?_;refine zG (λhc=>I9 uu9 (Eg hc) Ek (q:=0) rfl (c:=c) rfl) ?_;refine A4 (GU.f rfl rfl) (λhc=>⟨Ef,(E1 (Eg hc)),a6r _ _ _⟩) Lb ?_;refine kA4 ?_;refine A4 (GU.f rfl rfl) (λhc=>⟨Ef,(E1 (Eg hc)),a8N _ _ _⟩) Lb ?_;refine Z1 ?_;refine wc ?_ ?_<;>intro c21
  have d21:bad (c::s)=true:=c21;refine Z1 ?_;refine wT h ?_;exact⟨by unfold nameR;rw[d21];rfl,rfl⟩;have d21:bad (c::s)=false:=c21;refine ZZ [0,1,0] ?_;refine B1 [0] rfl (λμ F' h'=>∃j:Nat,(j<=(c::s).length/\a9x (c::s)=a9x ((c::s).drop j))/\(c::s).length-j=μ/\F'=[(3,.int .i64 j)]/\h=h') ((c::s).length-0) [(3,.int .i64 0)] (h0:=h) ?_ Sb ⟨0,⟨by omega,rfl⟩,rfl,rfl,rfl⟩ ?_;exact Su;rintro _ _ _ ⟨j,⟨hk,hJ⟩,rfl,rfl,rfl⟩;refine B2 rfl ?_;refine kA2 ?_;refine xG (I8 uu9 Et) ?_;refine Z1 ?_;refine wD ?_ ?_<;>intro c25
  obtain⟨x,hx⟩:=A5 (l:=c::s) (k:=j) (by omega);rw[b9F hx]at hJ;refine ZZ [0,2] ?_;refine xG (I9 uu9 Et Et rfl (by assumption)) ?_;refine xf (E1 Et) (c2w _ _ _) ?_;refine Z1 ?_;refine wc ?_ ?_<;>intro c32
  have d32:b3p x.toNat=false:=by simpa using c32
  rw[d32]at hJ;refine Z1 ?_;refine wT h ?_;exact⟨by unfold nameR;rw[d21,hJ];rfl,rfl⟩;have d32:b3p x.toNat=true:=by simpa using c32
  rw[d32]at hJ;refine ZZ [0,3] ?_;refine WL.nil (A6 ((c::s).length-(j+1)) [(3,.int .i64 (j+1))] (h'':=h) (by omega) ?_ Su Sb ⟨j+1,⟨by omega,by simpa using hJ⟩,rfl,rfl,rfl⟩);exact Su;rw[List.drop_eq_nil_of_le (by omega)]at hJ;refine ZZ [0,1,0] ?_;refine wT h ?_;exact⟨by unfold nameR;rw[d21,hJ];rfl,rfl⟩
end
section
open Go.Eng Go.Xp Go
theorem prim_ct(k:Int)(h:List Res)(m:View):CT prog 292 [.int .u8 k] h m (A7 h (str (N0 k))):=by
 refine cB [0,2,3,4,6,8] func292 λ_=>?_;refine ZZ [1,1,2,0] ?_;refine wE ?_ ?_<;>intro c4
 refine Z1 ?_;refine wT h ?_;exact⟨by unfold N0;rw[if_pos c4],rfl⟩;refine Z2 ?_;refine wE ?_ ?_<;>intro c6
 refine Z1 ?_;refine wT h ?_;exact⟨by unfold N0;rw[if_neg c4,if_pos c6],rfl⟩;refine Z2 ?_;refine wE ?_ ?_<;>intro c8
 refine Z1 ?_;refine wT h ?_;exact⟨by unfold N0;rw[if_neg c4,if_neg c6,if_pos c8],rfl⟩;refine ZZ [0,1,0] ?_;refine wT h ?_;exact⟨by unfold N0;rw[if_neg c4,if_neg c6,if_neg c8],rfl⟩
theorem c9P{o:Int}(h:0<=o/\o<=255):IntKind.i64.wrap o=o:=by rw[IntKind.wrap_i64];omega
theorem a8Z(o:Int)(ho:0<=o/\o<=255)(h:List Res)(m:View):CT prog 349 [.int .u8 o] h m (A7 h (.tuple #[str (X2 o).1,.bool (X2 o).2])):=by
 have hw:=c9P ho;refine cB [0,2,3,4,12] func349 λ_=>?_;refine Z2 ?_;refine xG (a5A c3y rfl rfl rfl Eb (by exact rfl)) ?_;refine xW λb4=>?_
 refine ZZ [1,4] ?_;refine zG (λhc=>PO.conv c7e uu3 (Eg hc)) ?_;refine Z2 ?_;refine wc ?_ ?_<;>intro c12
 rw[hw]at c12;refine Z2 ?_;refine w2 h ?_;exact⟨by unfold X2;rw[if_pos c12],rfl⟩;rw[hw]at c12;have ho2:o<27:=by have:=c9M (a:=true) (b:=decide (o>=27)) (by cases h9:(o==0)<;>simp_all);simpa using this
 have hq:o=(o.toNat:Int):=by omega
 have hv:(a1k.map str)[0+o.toNat*1]?=some (str (a1k.getD o.toNat [])):=by rw[Nat.zero_add,Nat.mul_one,List.getElem?_map,List.getD_eq_getElem?_getD,List.getElem?_eq_getElem (show o.toNat<a1k.length by show o.toNat<27;omega)];rfl
 refine ZZ [0,1] ?_;refine xG (b8z (sz:=1) c3y rfl Et Et (q:=o.toNat) hq (by omega)) ?_;refine xG (E9 uu9 rfl Et (List.Mem.head _) hv) ?_;refine Z2 ?_;refine w2 h ?_;exact⟨by unfold X2;rw[if_neg (by rw[c12];decide)],rfl⟩
theorem c3B{m:View}(hg:Glob m)(e:Ex)(hw:Wf e)(h:List Res):CT prog 232 [exV e] h m (A7 h (.tuple #[.int .i64 (D5 e).1,.bool (D5 e).2])):=by
 obtain⟨⟨hk,ho,ht⟩,hn,hs⟩:=hw.spec;have hs2:e.s.length<=9223372036854775807:=by omega
 refine cB [1,2,3,4,9,10,13,18,20,25,27,34,38,39,49,51,60,62,67] func232 λ_=>?_;refine xX λb1=>?_
 refine ZZ [2,1] ?_;refine xW λb4=>?_;refine ZZ [1,4,0] ?_;refine kP2 [1,2,4,9] ?_;refine F4 KKh [4] rfl (λF' h'=>∃nn:Int,∃o':Int,∃t':Int,∃n':Int,∃s':B,(D5 e=(nn,fin o' t' n' s'))/\F'=[(2,.int .i64 nn)]/\.pt b4 (.cells [.int .u8 0,.int .u8 o',.int .u8 t',.int .i32 n',str s',.slice none 0 0].toArray 28 (0,0))::h=h') ?_ ?_;refine Z2 ?_;refine wE ?_ ?_<;>intro c10
 refine kA2 ?_;refine WL.nil (B4 [(2,.int .i64 0)] (h'':=.pt b4 (.cells [.int .u8 0,.int .u8 (e.o),.int .u8 (e.t),.int .i32 0,str (e.s),.slice none 0 0].toArray 28 (0,0))::h) ?_ Su Sb ⟨0,e.o,e.t,0,e.s,by simp[D5,c10],rfl,rfl⟩);exact Su;refine Z2 ?_;refine wE ?_ ?_<;>intro c13
 refine kA2 ?_;refine xG (PO.shr Et Ek (by decide)) ?_;refine Z1 ?_;refine wN ?_ ?_<;>intro c18
 refine Z2 ?_;refine w2 h ?_;exact⟨by simp[D5,c13,c18],rfl⟩;refine ZZ [0,2] ?_;refine WL.nil (B4 [(2,.int .i64 0)] (h'':=.pt b4 (.cells [.int .u8 0,.int .u8 (e.o),.int .u8 (e.t),.int .i32 0,str (e.s),.slice none 0 0].toArray 28 (0,0))::h) ?_ Su Sb ⟨0,e.o,e.t,0,e.s,by simp[D5,c13,c18],rfl,rfl⟩);exact Su;refine Z2 ?_;refine wE ?_ ?_<;>intro c20
 refine kA2 ?_;refine xG (PO.shr Et Ek (by decide)) ?_;refine Z1 ?_;refine wN ?_ ?_<;>intro c25
 refine Z2 ?_;refine w2 h ?_;exact⟨by simp[D5,c20,c25],rfl⟩;refine ZZ [0,2] ?_;refine WL.nil (B4 [(2,.int .i64 0)] (h'':=.pt b4 (.cells [.int .u8 0,.int .u8 (e.o),.int .u8 (e.t),.int .i32 0,str (e.s),.slice none 0 0].toArray 28 (0,0))::h) ?_ Su Sb ⟨0,e.o,e.t,0,e.s,by simp[D5,c20,c25],rfl,rfl⟩);exact Su;refine Z2 ?_;refine wc ?_ ?_<;>intro c27
 have hk4:e.k=4:=b6O c27;refine Z0 ?_;refine wc ?_ ?_<;>intro c27
 refine kA2 ?_;refine xf (E1 Et) (a1d _ _ _ hg (by assumption)) ?_;refine Z1 ?_;refine wc ?_ ?_<;>intro c34
 have hnm:Go.Lx.name e.s=false:=by simpa using c34
 refine Z2 ?_;refine w2 h ?_;exact⟨by first|simp[D5,hk4,hnm]|simp[D5,hk9,hnm]|simp[D5,hk5,hnm],rfl⟩;have hnm:Go.Lx.name e.s=true:=by simpa using c34
 refine ZZ [0,2,3,0] ?_;refine wE ?_ ?_<;>intro c38
 refine kA1 ?_;refine WL.nil (B4 [(2,.int .i64 1)] (h'':=.pt b4 (.cells [.int .u8 0,.int .u8 (e.o),.int .u8 (e.t),.int .i32 (e.n),str ([]),.slice none 0 0].toArray 28 (0,0))::h) ?_ Su Sb ⟨1,e.o,e.t,e.n,[],by simp[D5,c38,hnm],rfl,rfl⟩);exact Su;have hq:D5 e=(0,fin e.o e.t e.n []):=by first|exact absurd hk5 c38|simp[D5,hk4,hnm]|simp[D5,hk9,hnm]
 refine WC.skip (B4 [(2,.int .i64 0)] (h'':=.pt b4 (.cells [.int .u8 0,.int .u8 (e.o),.int .u8 (e.t),.int .i32 (e.n),str ([]),.slice none 0 0].toArray 28 (0,0))::h) ?_ Su Sb ⟨0,e.o,e.t,e.n,[],hq,rfl,rfl⟩);exact Su;exact absurd hk4 (b3a c27);have n4:e.k≠4:=b3a c27;refine Z2 ?_;refine wc ?_ ?_<;>intro c27
 have hk9:e.k=9:=b6O c27;refine Z0 ?_;refine wc ?_ ?_<;>intro c27
 refine kA2 ?_;refine xf (E1 Et) (a1d _ _ _ hg (by assumption)) ?_;refine Z1 ?_;refine wc ?_ ?_<;>intro c34
 have hnm:Go.Lx.name e.s=false:=by simpa using c34
 refine Z2 ?_;refine w2 h ?_;exact⟨by first|simp[D5,hk4,hnm]|simp[D5,hk9,hnm]|simp[D5,hk5,hnm],rfl⟩;have hnm:Go.Lx.name e.s=true:=by simpa using c34
 refine ZZ [0,2,3,0] ?_;refine wE ?_ ?_<;>intro c38
 refine kA1 ?_;refine WL.nil (B4 [(2,.int .i64 1)] (h'':=.pt b4 (.cells [.int .u8 0,.int .u8 (e.o),.int .u8 (e.t),.int .i32 (e.n),str ([]),.slice none 0 0].toArray 28 (0,0))::h) ?_ Su Sb ⟨1,e.o,e.t,e.n,[],by simp[D5,c38,hnm],rfl,rfl⟩);exact Su;have hq:D5 e=(0,fin e.o e.t e.n []):=by first|exact absurd hk5 c38|simp[D5,hk4,hnm]|simp[D5,hk9,hnm]
 refine WC.skip (B4 [(2,.int .i64 0)] (h'':=.pt b4 (.cells [.int .u8 0,.int .u8 (e.o),.int .u8 (e.t),.int .i32 (e.n),str ([]),.slice none 0 0].toArray 28 (0,0))::h) ?_ Su Sb ⟨0,e.o,e.t,e.n,[],hq,rfl,rfl⟩);exact Su;exact absurd hk9 (b3a c27);have n9:e.k≠9:=b3a c27;refine Z2 ?_;refine wc ?_ ?_<;>intro c27
 have hk5:e.k=5:=b6O c27;refine kA2 ?_;refine xf (E1 Et) (a1d _ _ _ hg (by assumption)) ?_;refine Z1 ?_;refine wc ?_ ?_<;>intro c34
 have hnm:Go.Lx.name e.s=false:=by simpa using c34
 refine Z2 ?_;refine w2 h ?_;exact⟨by first|simp[D5,hk4,hnm]|simp[D5,hk9,hnm]|simp[D5,hk5,hnm],rfl⟩;have hnm:Go.Lx.name e.s=true:=by simpa using c34
 refine ZZ [0,2,3,0] ?_;refine wE ?_ ?_<;>intro c38
 refine kA1 ?_;refine WL.nil (B4 [(2,.int .i64 1)] (h'':=.pt b4 (.cells [.int .u8 0,.int .u8 (e.o),.int .u8 (e.t),.int .i32 (e.n),str ([]),.slice none 0 0].toArray 28 (0,0))::h) ?_ Su Sb ⟨1,e.o,e.t,e.n,[],by simp[D5,c38,hnm],rfl,rfl⟩);exact Su;have hq:D5 e=(0,fin e.o e.t e.n []):=by first|exact absurd hk5 c38|simp[D5,hk4,hnm]|simp[D5,hk9,hnm]
 refine WC.skip (B4 [(2,.int .i64 0)] (h'':=.pt b4 (.cells [.int .u8 0,.int .u8 (e.o),.int .u8 (e.t),.int .i32 (e.n),str ([]),.slice none 0 0].toArray 28 (0,0))::h) ?_ Su Sb ⟨0,e.o,e.t,e.n,[],hq,rfl,rfl⟩);exact Su;have n5:e.k≠5:=b3a c27;refine Z2 ?_;refine wE ?_ ?_<;>intro c39
 refine Z9 ?_;refine wc ?_ ?_<;>intro c49
 refine Z2 ?_;refine w2 h ?_;exact⟨by simp only[D5,c39,c49];rfl,rfl⟩;refine ZZ [0,3] ?_;refine WL.nil (B4 [(2,.int .i64 1)] (h'':=.pt b4 (.cells [.int .u8 0,.int .u8 0,.int .u8 (e.t),.int .i32 (e.n),str (e.s),.slice none 0 0].toArray 28 (0,0))::h) ?_ Su Sb ⟨1,0,e.t,e.n,e.s,by simp only[D5,c39,c49];rfl,rfl,rfl⟩);exact Su;refine Z2 ?_;refine wE ?_ ?_<;>intro c51
 refine Z8 ?_;refine wc ?_ ?_<;>intro c60
 refine Z2 ?_;refine w2 h ?_;exact⟨by simp only[D5,c51,c60];rfl,rfl⟩;refine ZZ [0,3] ?_;refine WL.nil (B4 [(2,.int .i64 2)] (h'':=.pt b4 (.cells [.int .u8 0,.int .u8 0,.int .u8 (e.t),.int .i32 (e.n),str (e.s),.slice none 0 0].toArray 28 (0,0))::h) ?_ Su Sb ⟨2,0,e.t,e.n,e.s,by simp only[D5,c51,c60];rfl,rfl,rfl⟩);exact Su;refine Z2 ?_;refine wE ?_ ?_<;>intro c62
 refine kA2 ?_;refine xf (E1 Et) (prim_ct _ _ _) ?_;refine xG (H3 Et Ek) ?_;refine Z0 ?_;refine wc ?_ ?_<;>intro c67
 refine Z2 ?_;refine w2 h ?_;exact⟨by simp only[D5,c62,c67];rfl,rfl⟩;refine ZZ [0,3] ?_;refine WL.nil (B4 [(2,.int .i64 1)] (h'':=.pt b4 (.cells [.int .u8 0,.int .u8 (e.o),.int .u8 0,.int .i32 (e.n),str (e.s),.slice none 0 0].toArray 28 (0,0))::h) ?_ Su Sb ⟨1,e.o,0,e.n,e.s,by simp only[D5,c62,c67];rfl,rfl,rfl⟩);exact Su;refine Z2 ?_;refine w2 h ?_;exact⟨by simp[D5,c10,c13,c20,n4,n9,n5,c39,c51,c62],rfl⟩;rintro _ _ ⟨nn,o',t',n',s',hJ,rfl,rfl⟩;refine B2 rfl ?_;refine jE ?_;refine dS [] (.op 0 (.op 1 (.op 2 (.op 3 (.op 4 (.op 5 (.op 6 (.op 7 (.op 8 (.op 9 (.op 10 (.op 11 (.op 12 (.op 13 (.op 14 (.op 15 (.op 16 (.op 17 (.op 18 (.op 19 .nil)))))))))))))))))))) [20] C4 ?_;refine kA3 ?_;refine yG rfl (P0 Et Ek rfl) ?_;refine kA3 ?_;refine C0 rfl rfl (GU.t rfl rfl) (λhc=>P0 (Eg hc) Ek rfl) Lb ?_;refine kA4 ?_;refine C0 rfl rfl (GU.t rfl rfl) (λhc=>P0 (Eg hc) Ek rfl) Lb ?_;refine kA4 ?_
 refine C0 rfl rfl (GU.t rfl rfl) (λhc=>H3 (Eg hc) Ek) Lb ?_;refine kA1 ?_;refine yG rfl (PO.assign Et) ?_;refine SR.nil rfl rfl ?_;refine Z1 ?_;refine w2 h ?_;exact⟨by rw[hJ];rfl,rfl⟩
end
section
open Go.Eng Go.Xp Go
end
section
open Go.Eng Go.Xp Go
abbrev a7x(b:Nat)(v:Int):Res:=.pt b (.cells [Value.int .i64 v].toArray 3 (0,0))
abbrev c9N(bl bv:Nat):Res:=.pt bv (.cells [Value.func (.func 231) #[] #[.pointer (some ⟨bl,0,none⟩),.pointer (some ⟨bv,0,none⟩)]].toArray 266 (0,0))
theorem c0U{m:View}(hg:Glob m)(bl bv:Nat)(e:Ex):∀(h:List Res)(deep left:Int),c9N bl bv∈h->TOk m h e->Wf e->(0<=deep/\deep<=33)->(0<=left/\left<=1000000) ->
 CT prog 231 [exV e,.int .i64 deep,.pointer (some ⟨bl,0,none⟩),.pointer (some ⟨bv,0,none⟩)] (a7x bl left::h) m
  (λv _ h'=>∃left',v=.bool (L3 deep left e).isSome/\(∀q,L3 deep left e=some q->left'=q)/\h'=a7x bl left'::h):=by
 refine Ex.ind (p:=λe=>∀(h:List Res)(deep left:Int),c9N bl bv∈h->TOk m h e->Wf e->(0<=deep/\deep<=33)->(0<=left/\left<=1000000) ->
  CT prog 231 [exV e,.int .i64 deep,.pointer (some ⟨bl,0,none⟩),.pointer (some ⟨bv,0,none⟩)] (a7x bl left::h) m
   (λv _ h'=>∃left',v=.bool (L3 deep left e).isSome/\(∀q,L3 deep left e=some q->left'=q)/\h'=a7x bl left'::h)) (λe ih h deep left hv hT hW hd hl=>?_) e
 have hr:=hT.rd;have hmx:=hr.mx;have hkx:=hr.le;have he:=a2z deep left e;refine cB [1,2,3,4,6,7,8,10,34,36,37,38,39,47] func231 λ_=>?_;refine xX λb4=>?_
 refine ZZ [1,1] ?_;refine xf (E1 Et) (c3B hg _ (by assumption) _) ?_;refine ZZ [5,1] ?_;refine xG (Q4 Et Ek (by omega)) ?_;refine ZZ [1,3] ?_;refine zG (λ_=>pL uu3) ?_;refine a8L ?_;refine Z1 ?_;refine wc ?_ ?_<;>intro c34
 replace c34:a5r deep left e=true:=c34;rw[c34,if_pos rfl]at he;refine Z1 ?_;refine wT (a7x bl (left-1)::h) ?_;exact⟨_,by rw[he];rfl,by(intro q hq;rw[he]at hq;cases hq),rfl⟩;replace c34:a5r deep left e=false:=c34;rw[c34,if_neg (by decide)]at he;have hb:=a8Q c34;refine ZZ [0,4,0] ?_;refine B1 [1,3,36,37] rfl (λμ F' h'=>∃k:Nat,∃z:Int,((k<=e.l.length/\0<=z/\z<=left)/\L3 deep left e=a0C (deep+1) z (e.l.drop k))/\e.l.length-k=μ/\F'=[(38,.int .i64 k)]/\.pt b4 (.cells (exE e).toArray 28 (0,0))::a7x bl z::h=h') (e.l.length-0) [(38,.int .i64 0)] (h0:=.pt b4 (.cells (exE e).toArray 28 (0,0))::a7x bl (left-1)::h) ?_ Sb ⟨0,left-1,⟨⟨by omega,by omega,by omega⟩,he⟩,rfl,rfl,rfl⟩ ?_;exact Su;rintro _ _ _ ⟨k,z,⟨⟨hk,hz0,hz1⟩,hJ⟩,rfl,rfl,rfl⟩;refine B2 rfl ?_;have hrk:Rd m (.pt b4 (.cells (exE e).toArray 28 (0,0))::a7x bl z::h) e.a e.l.length e.c 6 (fl exE e.l):=hr.mono Vl Sb;refine Z1 ?_
 refine wD ?_ ?_<;>intro c39
 obtain⟨x,hx⟩:=A5 (l:=e.l) (k:=k) (by omega);have hxm:=List.mem_of_getElem? hx;rw[b2m hx]at hJ;refine ZZ [0,2] ?_;refine xW λb10=>?_
 refine Z1 ?_;refine xG (E9 c6V rfl Et (List.mem_cons_of_mem _ (List.mem_cons_of_mem _ (List.mem_cons_of_mem _ hv))) rfl) ?_;refine kA3 ?_;refine pD (a7x bl z) ?_;refine I3 (Ev.tmp rfl) (E2 (Ev.tmp rfl) (Ev.tmp rfl)) (ih x hxm _ (deep+1) z (List.mem_cons_of_mem _ (List.mem_cons_of_mem _ hv)) ((hT.part hxm).mono Sb) (hW.part hxm) (by omega) (by omega)) Lb ?_;rintro _ _ ⟨z46,rfl,y46,rfl⟩;refine pD (.pt b4 _) ?_;refine Z1 ?_;refine wc ?_ ?_<;>intro c47
 have hn:L3 (deep+1) z x=none:=by simpa using c47
 rw[hn]at hJ;refine Z1 ?_;refine wT (a7x bl z46::h) ?_;exact⟨_,by rw[hJ];rfl,by(intro q hq;rw[hJ]at hq;cases hq),rfl⟩;obtain⟨q,hq⟩:∃q,L3 (deep+1) z x=some q:=Option.isSome_iff_exists.1 (by simpa using c47);have hq2:=y46 q hq;subst hq2;have hrg:=a4m _ _ _ _ hz0 hq;rw[hq]at hJ;refine ZZ [0,2] ?_;refine WL.nil (A6 (e.l.length-(k+1)) [(38,.int .i64 (k+1))] (h'':=.pt b4 (.cells (exE e).toArray 28 (0,0))::a7x bl z46::h) (by omega) ?_ Su Sb ⟨k+1,z46,⟨⟨by omega,by omega,by omega⟩,hJ⟩,rfl,rfl,rfl⟩);exact Su;rw[List.drop_eq_nil_of_le (by omega)]at hJ;replace hJ:L3 deep left e=some z:=hJ;refine ZZ [0,1,0] ?_;refine wT (a7x bl z::h) ?_;exact⟨_,by rw[hJ];rfl,by(intro q hq;rw[hJ]at hq;cases hq;rfl),rfl⟩
theorem may_ct{m:View}(hg:Glob m)(e:Ex)(h:List Res)(hT:TOk m h e)(hW:Wf e):CT prog 139 [exV e] h m (A7 h (.bool (F8 e))):=by
 refine cB [1,2,3,4] func139 λ_=>?_;refine xX λb1=>?_
 refine Z1 ?_;refine xW λb3=>?_;refine Z1 ?_;refine xW λb4=>?_
 refine Z0 ?_;refine xG (PO.makeFunc Evs.nil (E2 Et Et)) ?_;refine ZZ [1,2] ?_;refine pD (a7x b3 256) ?_;refine I3 (Ev.tmp rfl) (E2 (Ev.tmp rfl) Ek) (c0U hg b3 b4 e _ 1 256 Me (hT.mono Sb) hW (by omega) (by omega)) Lb ?_;rintro _ _ ⟨z8,rfl,y8,rfl⟩;refine Z1 ?_;refine wT h ?_;exact⟨rfl,rfl⟩
end
section
open Go.Eng Go.Xp Go
open Go.Ty (Tok A3 B8 O4)
theorem _root_.Go.Xp.TOk.fr{m:View}{h:List Res}{e:Ex}(q:TOk m h e)(fr:List Res):TOk m (fr++h) e:=q.mono (List.sublist_append_right fr h)
theorem a0N(s:B)(h:List Res)(m:View):CT prog 312 [str s] h m (A7 h (O4 (B9 s))):=by
 refine cB [0,2] func312 λ_=>?_;refine xW λb2=>?_
 refine ZZ [0,3,0] ?_;refine WC.ret (a2V (h':=h) (.inl rfl) rfl (G4 M4 rfl rfl rfl Me rfl) Vl Sb ?_);exact⟨rfl,rfl⟩
theorem a0c{m:View}(hg:Glob m)(s:B)(hs:s.length<=140737488355328)(h:List Res):CT prog 311 [str s] h m (A7 h (O4 (D7 s))):=by
 refine cB [0,2,4] func311 λ_=>?_;refine xW λb2=>?_
 refine ZZ [0,1] ?_;refine xf (E1 Et) (a7X _ _ _ hg (by assumption)) ?_;refine Z0 ?_;refine wc ?_ ?_<;>intro c4
 refine Z3 ?_;refine WC.ret (a2V (h':=h) (.inl rfl) rfl (G4 M4 rfl rfl rfl Me rfl) Vl Sb ?_);exact⟨by unfold D7;rw[c4];rfl,rfl⟩;refine ZZ [0,1] ?_;refine xf (E1 Et) (a0N _ _ _) ?_;refine Z1 ?_;refine WC.ret (a2V (h':=h) (.inl rfl) rfl (G4 M4 rfl rfl rfl Me rfl) Vl Sb ?_);exact⟨by unfold D7;rw[c4];rfl,rfl⟩
theorem c0O(o:Int):(X2 o).1.length<=5:=by
 unfold X2;split
 ·decide
 ·show(a1k.getD o.toNat []).length<=5
  have:∀s∈a1k,s.length<=5:=by decide
  rw[List.getD_eq_getElem?_getD];cases h:a1k[o.toNat]? with
  |none=>decide
  |some s=>exact this s (List.mem_of_getElem? h)
theorem a5b{m:View}(hg:Glob m)(o:Int)(ho:0<=o/\o<=255)(h:List Res):CT prog 314 [.int .u8 o] h m (A7 h (O4 (G2 o))):=by
 have hl:=c0O o;refine cB [0,2,3] func314 λ_=>?_;refine xW λb2=>?_
 refine ZZ [0,1] ?_;refine xf (E1 Et) (a8Z _ (by assumption) _ _) ?_;refine ZZ [5,1] ?_;refine xf (E1 Et) (a0c hg (X2 o).1 (by omega) _) ?_;refine Z1 ?_;refine WC.ret (a2V (h':=h) (.inl rfl) rfl (G4 M4 rfl rfl rfl Me rfl) Vl Sb ?_);exact⟨rfl,rfl⟩
theorem b4W(k:Int):(N0 k).length<=4:=by
 unfold N0;repeat' split
 all_goals decide
abbrev WCT(m:View)(e:Ex):Prop:=∀(h:List Res)(xs:List Tok)(a:Option Addr)(c:Nat),TOk m h e->Fine e->Wf e->xs.length+5*a3i e<=1000000 ->
 CT prog 246 [.slice a xs.length c,exV e] (.row (.slice a xs.length c) 97 4 xs.length (fl A3 xs)::h) m (λv _ h'=>b3K A3 97 4 h (xs++A8 e) v h')
theorem a8T{m:View}(e:Ex)(hw:WCT m e)(h:List Res)(xs:List Tok)(a:Option Addr)(c:Nat)(hT:TOk m h e)(hF:Fine e)(hW:Wf e)(hl:xs.length+5*a3i e+2<=1000000) :
 CT prog 313 [.slice a xs.length c,exV e] (.row (.slice a xs.length c) 97 4 xs.length (fl A3 xs)::h) m (λv _ h'=>b3K A3 97 4 h (xs++B7 e) v h'):=by
 have hwl:=X7 e hF;have hce:=a0b e;have hl1:(xs++[B9 [40]]).length=xs.length+1:=by simp
 have hl2:((xs++[B9 [40]])++A8 e).length=xs.length+1+(A8 e).length:=by simp;omega
 have hl3:(((xs++[B9 [40]])++A8 e)++[B9 [41]]).length=xs.length+2+(A8 e).length:=by simp;omega
 refine cB [0,3,4,6,7] func313 λ_=>?_;refine xX λb3=>?_
 refine ZZ [1,2,2,0] ?_;refine wc ?_ ?_<;>intro c7
 have d6:=c7;refine Z0 ?_;refine wc ?_ ?_<;>intro c7
 have hp:B7 e=B9 [40]::(A8 e++[B9 [41]]):=by unfold B7 N4 par;rw[d6];rfl
 refine jE ?_;refine WC.take (r:=.row _ _ _ _ _) De ?_;refine F3 [1,2,3] (.op 0 (.op 4 (.op 1 (.op 2 (.op 3 .nil))))) [5,6,7,8,9] _ [_] C4 (λ_ _ _ _ _ h=>h) [] (by kernel_rfl) ?_;refine kA2 ?_;refine yf rfl (E1 Ek) (λfr=>a0N _ _ _) ?_;refine sB rfl B3 λb14=>?_;refine W4 rfl rfl B3 (Ev.tmp rfl) (Ev.tmp rfl) Rr On hl1.symm (D4 (enc:=A3) _ (B9 [40])) (by omega) (by omega) (λv'=>Up) Lb λa15 c15=>?_
 refine SR.nil rfl rfl ?_;refine pD (.row _ _ _ _ _) ?_;refine xg (E2 Et Et) (hw _ (xs++[B9 [40]]) _ _ (hT.mono Sb) hF hW (by omega)) ?_;rintro _ _ ⟨a17,c17,k17,e17,rfl,rfl⟩;refine kR a17 λp17 q17 r17=>?_;subst e17;refine xf (E1 Ek) (a0N _ _ _) ?_;refine xY B3 Eb λb19=>?_
 refine xD B3 (Ev.tmp rfl) (Ev.tmp rfl) (show _=(((xs++[B9 [40]])++A8 e)++[B9 [41]]).length by rw[hl3,hl2];omega) (D4 (enc:=A3) _ (B9 [41])) λa20 c20=>?_;refine Z1 ?_;refine wT (.row (.slice a20 (((xs++[B9 [40]])++A8 e)++[B9 [41]]).length c20) 97 4 (((xs++[B9 [40]])++A8 e)++[B9 [41]]).length (fl A3 (((xs++[B9 [40]])++A8 e)++[B9 [41]]))::h) ?_;rw[show xs++B7 e=((xs++[B9 [40]])++A8 e)++[B9 [41]] by rw[hp];simp];exact⟨_,_,_,rfl,rfl,rfl⟩
 cases d6.symm.trans c7;have d6:=c7;refine Z2 ?_;refine wc ?_ ?_<;>intro c7
 have d7:=c7;refine Z0 ?_;refine wc ?_ ?_<;>intro c7
 have hp:B7 e=B9 [40]::(A8 e++[B9 [41]]):=by unfold B7 N4 par;rw[d6,d7];rfl
 refine jE ?_;refine WC.take (r:=.row _ _ _ _ _) De ?_;refine F3 [1,2,3] (.op 0 (.op 4 (.op 1 (.op 2 (.op 3 .nil))))) [5,6,7,8,9] _ [_] C4 (λ_ _ _ _ _ h=>h) [] (by kernel_rfl) ?_;refine kA2 ?_;refine yf rfl (E1 Ek) (λfr=>a0N _ _ _) ?_;refine sB rfl B3 λb14=>?_;refine W4 rfl rfl B3 (Ev.tmp rfl) (Ev.tmp rfl) Rr On hl1.symm (D4 (enc:=A3) _ (B9 [40])) (by omega) (by omega) (λv'=>Up) Lb λa15 c15=>?_
 refine SR.nil rfl rfl ?_;refine pD (.row _ _ _ _ _) ?_;refine xg (E2 Et Et) (hw _ (xs++[B9 [40]]) _ _ (hT.mono Sb) hF hW (by omega)) ?_;rintro _ _ ⟨a17,c17,k17,e17,rfl,rfl⟩;refine kR a17 λp17 q17 r17=>?_;subst e17;refine xf (E1 Ek) (a0N _ _ _) ?_;refine xY B3 Eb λb19=>?_
 refine xD B3 (Ev.tmp rfl) (Ev.tmp rfl) (show _=(((xs++[B9 [40]])++A8 e)++[B9 [41]]).length by rw[hl3,hl2];omega) (D4 (enc:=A3) _ (B9 [41])) λa20 c20=>?_;refine Z1 ?_;refine wT (.row (.slice a20 (((xs++[B9 [40]])++A8 e)++[B9 [41]]).length c20) 97 4 (((xs++[B9 [40]])++A8 e)++[B9 [41]]).length (fl A3 (((xs++[B9 [40]])++A8 e)++[B9 [41]]))::h) ?_;rw[show xs++B7 e=((xs++[B9 [40]])++A8 e)++[B9 [41]] by rw[hp];simp];exact⟨_,_,_,rfl,rfl,rfl⟩
 cases d7.symm.trans c7;have d7:=c7;refine Z2 ?_;refine wc ?_ ?_<;>intro c7
 have d8:=c7;refine Z0 ?_;refine wc ?_ ?_<;>intro c7
 have hp:B7 e=B9 [40]::(A8 e++[B9 [41]]):=by unfold B7 N4 par;rw[d6,d7,d8];rfl
 refine jE ?_;refine WC.take (r:=.row _ _ _ _ _) De ?_;refine F3 [1,2,3] (.op 0 (.op 4 (.op 1 (.op 2 (.op 3 .nil))))) [5,6,7,8,9] _ [_] C4 (λ_ _ _ _ _ h=>h) [] (by kernel_rfl) ?_;refine kA2 ?_;refine yf rfl (E1 Ek) (λfr=>a0N _ _ _) ?_;refine sB rfl B3 λb14=>?_;refine W4 rfl rfl B3 (Ev.tmp rfl) (Ev.tmp rfl) Rr On hl1.symm (D4 (enc:=A3) _ (B9 [40])) (by omega) (by omega) (λv'=>Up) Lb λa15 c15=>?_
 refine SR.nil rfl rfl ?_;refine pD (.row _ _ _ _ _) ?_;refine xg (E2 Et Et) (hw _ (xs++[B9 [40]]) _ _ (hT.mono Sb) hF hW (by omega)) ?_;rintro _ _ ⟨a17,c17,k17,e17,rfl,rfl⟩;refine kR a17 λp17 q17 r17=>?_;subst e17;refine xf (E1 Ek) (a0N _ _ _) ?_;refine xY B3 Eb λb19=>?_
 refine xD B3 (Ev.tmp rfl) (Ev.tmp rfl) (show _=(((xs++[B9 [40]])++A8 e)++[B9 [41]]).length by rw[hl3,hl2];omega) (D4 (enc:=A3) _ (B9 [41])) λa20 c20=>?_;refine Z1 ?_;refine wT (.row (.slice a20 (((xs++[B9 [40]])++A8 e)++[B9 [41]]).length c20) 97 4 (((xs++[B9 [40]])++A8 e)++[B9 [41]]).length (fl A3 (((xs++[B9 [40]])++A8 e)++[B9 [41]]))::h) ?_;rw[show xs++B7 e=((xs++[B9 [40]])++A8 e)++[B9 [41]] by rw[hp];simp];exact⟨_,_,_,rfl,rfl,rfl⟩
 cases d8.symm.trans c7;have d8:=c7;refine Z2 ?_;refine wc ?_ ?_<;>intro c7
 have hp:B7 e=B9 [40]::(A8 e++[B9 [41]]):=by unfold B7 N4 par;rw[d6,d7,d8,c7];rfl
 refine jE ?_;refine WC.take (r:=.row _ _ _ _ _) De ?_;refine F3 [1,2,3] (.op 0 (.op 4 (.op 1 (.op 2 (.op 3 .nil))))) [5,6,7,8,9] _ [_] C4 (λ_ _ _ _ _ h=>h) [] (by kernel_rfl) ?_;refine kA2 ?_;refine yf rfl (E1 Ek) (λfr=>a0N _ _ _) ?_;refine sB rfl B3 λb14=>?_;refine W4 rfl rfl B3 (Ev.tmp rfl) (Ev.tmp rfl) Rr On hl1.symm (D4 (enc:=A3) _ (B9 [40])) (by omega) (by omega) (λv'=>Up) Lb λa15 c15=>?_
 refine SR.nil rfl rfl ?_;refine pD (.row _ _ _ _ _) ?_;refine xg (E2 Et Et) (hw _ (xs++[B9 [40]]) _ _ (hT.mono Sb) hF hW (by omega)) ?_;rintro _ _ ⟨a17,c17,k17,e17,rfl,rfl⟩;refine kR a17 λp17 q17 r17=>?_;subst e17;refine xf (E1 Ek) (a0N _ _ _) ?_;refine xY B3 Eb λb19=>?_
 refine xD B3 (Ev.tmp rfl) (Ev.tmp rfl) (show _=(((xs++[B9 [40]])++A8 e)++[B9 [41]]).length by rw[hl3,hl2];omega) (D4 (enc:=A3) _ (B9 [41])) λa20 c20=>?_;refine Z1 ?_;refine wT (.row (.slice a20 (((xs++[B9 [40]])++A8 e)++[B9 [41]]).length c20) 97 4 (((xs++[B9 [40]])++A8 e)++[B9 [41]]).length (fl A3 (((xs++[B9 [40]])++A8 e)++[B9 [41]]))::h) ?_;rw[show xs++B7 e=((xs++[B9 [40]])++A8 e)++[B9 [41]] by rw[hp];simp];exact⟨_,_,_,rfl,rfl,rfl⟩
 have hp:B7 e=A8 e:=by unfold B7 N4 par;rw[d6,d7,d8,c7];rfl
 refine ZZ [0,2] ?_;refine pD (.row _ _ _ _ _) ?_;refine xg (E2 Et Et) (hw _ xs _ _ (hT.mono Sb) hF hW (by omega)) ?_;rintro _ _ ⟨a23,c23,k23,e23,rfl,rfl⟩;refine kR a23 λp23 q23 r23=>?_;refine Z1 ?_;refine wT (.row (.slice a23 k23 c23) 97 4 k23 (fl A3 (xs++A8 e))::h) ?_;rw[hp];exact⟨_,_,_,e23,rfl,rfl⟩
theorem c1F{m:View}(hg:Glob m)(e:Ex):WCT m e:=by
 refine Ex.ind (p:=λe=>WCT m e) (λe ih h xs a c hT hF hW hl=>?_) e;obtain⟨⟨hk,ho,ht⟩,hn,hs⟩:=hW.spec;have hce:=a0b e;have hr:=hT.rd;have hkind:=a0W hF;have we:=G1 e;have hl1:∀t:Tok,xs.length+1=(xs++[t]).length:=by simp
 have hl2:∀t u:Tok,xs.length+2=(xs++[t,u]).length:=by simp
 have hlp:=b4W e.t;refine cB [0,3,4,5,10,11,19,27,31,40,46,53,68,81] func246 λ_=>?_;refine xX λb3=>?_
 refine ZZ [1,3] ?_;refine xW λb5=>?_;refine ZZ [1,2,2,0] ?_;refine wE ?_ ?_<;>intro c11
 have we1:A8 e=[a6D e.n]:=by rw[we];simp[wr,c11]
 refine kA4 ?_;refine xY B3 Eb λb17=>?_;have hq:=hl1 (a6D e.n);refine xD B3 (Ev.tmp rfl) (Ev.tmp rfl) hq (D4 (enc:=A3) _ (a6D e.n)) λa18 c18=>?_
 refine Z1 ?_;refine wT (.row (.slice a18 (xs++[a6D e.n]).length c18) 97 4 (xs++[a6D e.n]).length (fl A3 (xs++[a6D e.n]))::h) ?_;rw[we1];exact⟨_,_,_,rfl,rfl,rfl⟩
 refine Z2 ?_;refine wE ?_ ?_<;>intro c19
 have we1:A8 e=[a2o e.n]:=by rw[we];simp[wr,c19]
 refine kA4 ?_;refine xY B3 Eb λb25=>?_;have hq:=hl1 (a2o e.n);refine xD B3 (Ev.tmp rfl) (Ev.tmp rfl) hq (D4 (enc:=A3) _ (a2o e.n)) λa26 c26=>?_
 refine Z1 ?_;refine wT (.row (.slice a26 (xs++[a2o e.n]).length c26) 97 4 (xs++[a2o e.n]).length (fl A3 (xs++[a2o e.n]))::h) ?_;rw[we1];exact⟨_,_,_,rfl,rfl,rfl⟩
 refine Z2 ?_;refine wE ?_ ?_<;>intro c27
 refine Z3 ?_;refine wE ?_ ?_<;>intro c31
 have we1:A8 e=[D7 [70,65,76,83,69]]:=by rw[we];simp[wr,c27,c31]
 refine kA1 ?_;refine xf (E1 Ek) (a0c hg _ (by decide) _) ?_;refine xY B3 Eb λb34=>?_;have hq:=hl1 (D7 [70,65,76,83,69]);refine xD B3 (Ev.tmp rfl) (Ev.tmp rfl) hq (D4 (enc:=A3) _ (D7 [70,65,76,83,69])) λa35 c35=>?_
 refine Z1 ?_;refine wT (.row (.slice a35 (xs++[D7 [70,65,76,83,69]]).length c35) 97 4 (xs++[D7 [70,65,76,83,69]]).length (fl A3 (xs++[D7 [70,65,76,83,69]]))::h) ?_;rw[we1];exact⟨_,_,_,rfl,rfl,rfl⟩
 have we1:A8 e=[D7 [84,82,85,69]]:=by rw[we];simp[wr,c27,c31]
 refine ZZ [0,1] ?_;refine xf (E1 Ek) (a0c hg _ (by decide) _) ?_;refine xY B3 Eb λb38=>?_;have hq:=hl1 (D7 [84,82,85,69]);refine xD B3 (Ev.tmp rfl) (Ev.tmp rfl) hq (D4 (enc:=A3) _ (D7 [84,82,85,69])) λa39 c39=>?_
 refine Z1 ?_;refine wT (.row (.slice a39 (xs++[D7 [84,82,85,69]]).length c39) 97 4 (xs++[D7 [84,82,85,69]]).length (fl A3 (xs++[D7 [84,82,85,69]]))::h) ?_;rw[we1];exact⟨_,_,_,rfl,rfl,rfl⟩
 refine Z2 ?_;refine wE ?_ ?_<;>intro c40
 have we1:A8 e=[C9 e.s]:=by rw[we];simp[wr,c40]
 refine kA2 ?_;refine xY B3 Eb λb44=>?_;have hq:=hl1 (C9 e.s);refine xD B3 (Ev.tmp rfl) (Ev.tmp rfl) hq (D4 (enc:=A3) _ (C9 e.s)) λa45 c45=>?_
 refine Z1 ?_;refine wT (.row (.slice a45 (xs++[C9 e.s]).length c45) 97 4 (xs++[C9 e.s]).length (fl A3 (xs++[C9 e.s]))::h) ?_;rw[we1];exact⟨_,_,_,rfl,rfl,rfl⟩
 refine Z2 ?_;refine wE ?_ ?_<;>intro c46
 have we1:A8 e=[D7 [83,73,90,69],C9 e.s]:=by rw[we];simp[wr,c46]
 refine jE ?_;refine WC.take (r:=.row _ _ _ _ _) De ?_;refine F3 [1] (.op 0 (.op 2 (.op 1 .nil))) [3,4,5] _ [_] C4 (λ_ _ _ _ _ h=>h) [0] (by kernel_rfl) ?_;refine kA2 ?_;refine yf rfl (E1 Ek) (λfr=>a0c hg _ (by decide) _) ?_;refine SR.nil rfl rfl ?_;refine xY B3 Eb λb51=>?_;have hq:=hl2 (D7 [83,73,90,69]) (C9 e.s);refine xD B3 (Ev.tmp rfl) (Ev.tmp rfl) hq (Q8 (enc:=A3) xs [D7 [83,73,90,69],C9 e.s]).symm λa52 c52=>?_
 refine Z1 ?_;refine wT (.row (.slice a52 (xs++[D7 [83,73,90,69],C9 e.s]).length c52) 97 4 (xs++[D7 [83,73,90,69],C9 e.s]).length (fl A3 (xs++[D7 [83,73,90,69],C9 e.s]))::h) ?_;rw[we1];exact⟨_,_,_,rfl,rfl,rfl⟩
 refine Z2 ?_;refine wE ?_ ?_<;>intro c53
 obtain⟨x,hx⟩:=R0 hF (.inl c53);have hx0:e.l[0]?=some x:=by rw[hx];rfl
 have hxl:e.l.length=1:=by rw[hx];rfl
 have hxm:x∈e.l:=by rw[hx];exact List.Mem.head _
 have hcx:a1O e.l=a3i x:=by rw[hx];simp[a1O]
 have we1:xs++A8 e=((xs++[C9 e.s,B9 [91]])++A8 x)++[B9 [93]]:=by rw[we,hx];simp[wr,c53,P3]
 have hwx:=X7 x (hF.part hxm);have hl3:((xs++[C9 e.s,B9 [91]])++A8 x).length=xs.length+2+(A8 x).length:=by simp;omega
 have hl4:(((xs++[C9 e.s,B9 [91]])++A8 x)++[B9 [93]]).length=xs.length+3+(A8 x).length:=by simp;omega
 have hl5:=hl2 (C9 e.s) (B9 [91]);refine jE ?_;refine WC.take (r:=.row _ _ _ _ _) De ?_;refine F3 [2,3,4] (.op 0 (.op 1 (.op 5 (.op 6 (.op 7 (.op 8 (.op 2 (.op 3 (.op 4 .nil))))))))) [9,10,11,12,13] _ [_] C4 (λ_ _ _ _ _ h=>h) [] (by kernel_rfl) ?_;refine kA4 ?_;refine yG rfl (D8 Q1.und Q1.size Q1.posz (Ev.tmp rfl) Ek Rr rfl (q:=0) (by omega)) ?_;refine kA1 ?_;refine yf rfl (E1 Ek) (λfr=>a0N _ _ _) ?_;refine sB rfl B3 λb58=>?_;refine W4 rfl rfl B3 (Ev.tmp rfl) (Ev.tmp rfl) Rr On hl5 (Q8 (enc:=A3) xs [C9 e.s,B9 [91]]).symm (by omega) (by omega) (λv'=>Up) Lb λa59 c59=>?_
 refine SR.nil rfl rfl ?_;refine pD (.row _ _ _ _ _) ?_;refine xg (E2 Et Et) (ih x hxm _ (xs++[C9 e.s,B9 [91]]) _ _ ((hT.part hxm).mono Sb) (hF.part hxm) (hW.part hxm) (by omega)) ?_;rintro _ _ ⟨a64,c64,k64,e64,rfl,rfl⟩;refine kR a64 λp64 q64 r64=>?_;subst e64;refine xf (E1 Ek) (a0N _ _ _) ?_;refine xY B3 Eb λb66=>?_
 refine xD B3 (Ev.tmp rfl) (Ev.tmp rfl) (show _=(((xs++[C9 e.s,B9 [91]])++A8 x)++[B9 [93]]).length by rw[hl4,hl3];omega) (D4 (enc:=A3) _ (B9 [93])) λa67 c67=>?_;refine Z1 ?_;refine wT (.row (.slice a67 (((xs++[C9 e.s,B9 [91]])++A8 x)++[B9 [93]]).length c67) 97 4 (((xs++[C9 e.s,B9 [91]])++A8 x)++[B9 [93]]).length (fl A3 (((xs++[C9 e.s,B9 [91]])++A8 x)++[B9 [93]]))::h) ?_;rw[we1];exact⟨_,_,_,rfl,rfl,rfl⟩
 refine Z2 ?_;refine wE ?_ ?_<;>intro c68
 obtain⟨x,hx⟩:=R0 hF (.inr (.inl c68));have hx0:e.l[0]?=some x:=by rw[hx];rfl
 have hxl:e.l.length=1:=by rw[hx];rfl
 have hxm:x∈e.l:=by rw[hx];exact List.Mem.head _
 have hcx:a1O e.l=a3i x:=by rw[hx];simp[a1O]
 have we1:xs++A8 e=(xs++[G2 e.o])++B7 x:=by rw[we,hx];simp[wr,c68,P3,B7]
 have hl3:=hl1 (G2 e.o);refine jE ?_;refine WC.take (r:=.row _ _ _ _ _) De ?_;refine F3 [3,4,5] (.op 0 (.op 1 (.op 2 (.op 6 (.op 7 (.op 8 (.op 9 (.op 3 (.op 4 (.op 5 .nil)))))))))) [10,11] _ [_] C4 (λ_ _ _ _ _ h=>h) [] (by kernel_rfl) ?_;refine kA5 ?_;refine yG rfl (D8 Q1.und Q1.size Q1.posz (Ev.tmp rfl) Ek Rr rfl (q:=0) (by omega)) ?_;refine kA1 ?_;refine yf rfl (E1 Et) (λfr=>a5b hg _ (by assumption) _) ?_;refine sB rfl B3 λb74=>?_;refine W4 rfl rfl B3 (Ev.tmp rfl) (Ev.tmp rfl) Rr On hl3 (D4 (enc:=A3) _ (G2 e.o)) (by omega) (by omega) (λv'=>Up) Lb λa75 c75=>?_
 refine SR.nil rfl rfl ?_;refine pD (.row _ _ _ _ _) ?_;refine xg (E2 Et Et) (a8T x (ih x hxm) _ (xs++[G2 e.o]) _ _ ((hT.part hxm).mono Sb) (hF.part hxm) (hW.part hxm) (by omega)) ?_;rintro _ _ ⟨a80,c80,k80,e80,rfl,rfl⟩;refine kR a80 λp80 q80 r80=>?_;subst e80;refine Z1 ?_;refine wT (.row (.slice a80 ((xs++[G2 e.o])++B7 x).length c80) 97 4 ((xs++[G2 e.o])++B7 x).length (fl A3 ((xs++[G2 e.o])++B7 x))::h) ?_;rw[we1];exact⟨_,_,_,rfl,rfl,rfl⟩
 refine Z2 ?_;refine wE ?_ ?_<;>intro c81
 obtain⟨x,hx⟩:=R0 hF (.inr (.inr c81));have hx0:e.l[0]?=some x:=by rw[hx];rfl
 have hxl:e.l.length=1:=by rw[hx];rfl
 have hxm:x∈e.l:=by rw[hx];exact List.Mem.head _
 have hcx:a1O e.l=a3i x:=by rw[hx];simp[a1O]
 have we1:xs++A8 e=(xs++[D7 (N0 e.t)])++B7 x:=by rw[we,hx];simp[wr,c81,P3,B7]
 have hl3:=hl1 (D7 (N0 e.t));refine jE ?_;refine WC.take (r:=.row _ _ _ _ _) De ?_;refine F3 [3,4,5,6] (.op 0 (.op 1 (.op 2 (.op 7 (.op 8 (.op 9 (.op 10 (.op 3 (.op 4 (.op 5 (.op 6 .nil))))))))))) [11,12] _ [_] C4 (λ_ _ _ _ _ h=>h) [] (by kernel_rfl) ?_;refine kA5 ?_;refine yG rfl (D8 Q1.und Q1.size Q1.posz (Ev.tmp rfl) Ek Rr rfl (q:=0) (by omega)) ?_;refine kA1 ?_;refine yf rfl (E1 Et) (λfr=>prim_ct _ _ _) ?_;refine yf rfl (E1 Et) (λfr=>a0c hg (N0 e.t) (by omega) _) ?_;refine sB rfl B3 λb88=>?_;refine W4 rfl rfl B3 (Ev.tmp rfl) (Ev.tmp rfl) Rr On hl3 (D4 (enc:=A3) _ (D7 (N0 e.t))) (by omega) (by omega) (λv'=>Up) Lb λa89 c89=>?_
 refine SR.nil rfl rfl ?_;refine pD (.row _ _ _ _ _) ?_;refine xg (E2 Et Et) (a8T x (ih x hxm) _ (xs++[D7 (N0 e.t)]) _ _ ((hT.part hxm).mono Sb) (hF.part hxm) (hW.part hxm) (by omega)) ?_;rintro _ _ ⟨a94,c94,k94,e94,rfl,rfl⟩;refine kR a94 λp94 q94 r94=>?_;subst e94;refine Z1 ?_;refine wT (.row (.slice a94 ((xs++[D7 (N0 e.t)])++B7 x).length c94) 97 4 ((xs++[D7 (N0 e.t)])++B7 x).length (fl A3 ((xs++[D7 (N0 e.t)])++B7 x))::h) ?_;rw[we1];exact⟨_,_,_,rfl,rfl,rfl⟩
 have hk7:e.k=7:=by rcases hkind with h|h|h|h|h|h|h|h|h<;>first|exact h|(exfalso;simp_all;done)
 obtain⟨x,y,hx⟩:=a4b hF hk7;have hx0:e.l[0]?=some x:=by rw[hx];rfl
 have hy0:e.l[1]?=some y:=by rw[hx];rfl
 have hxl:e.l.length=2:=by rw[hx];rfl
 have hxm:x∈e.l:=by rw[hx];exact List.Mem.head _
 have hym:y∈e.l:=by rw[hx];exact List.Mem.tail _ (List.Mem.head _)
 have hcx:a1O e.l=a3i x+a3i y:=by rw[hx];simp[a1O]
 have we1:xs++A8 e=((xs++B7 x)++[G2 e.o])++B7 y:=by rw[we,hx];simp[wr,hk7,P3,B7]
 have hwx:=X7 x (hF.part hxm);have hox:=a0y (par x.k,A8 x);have hl3:(xs++B7 x).length+1=((xs++B7 x)++[G2 e.o]).length:=(@List.length_append _ (xs++B7 x) [G2 e.o]).symm;have hl4:(xs++B7 x).length<=xs.length+5*a3i x:=by rw[List.length_append];have:(B7 x).length<=(A8 x).length+2:=hox;have:=a0b x;omega
 have hcy:=a0b y;have hcx2:=a0b x;refine WC.skip (kp [0,3] ?_);refine jE ?_;refine WC.take (r:=.row _ _ _ _ _) De ?_;refine F3 [5,8,9,10] (.op 0 (.op 1 (.op 2 (.op 3 (.op 4 (.op 6 (.op 7 (.op 11 (.op 12 (.op 13 (.op 14 (.op 5 (.op 8 (.op 9 (.op 10 .nil))))))))))))))) [15,16] _ [_] C4 (λ_ _ _ _ _ h=>h) [] (by kernel_rfl) ?_;refine kA3 ?_;refine yG rfl (D8 Q1.und Q1.size Q1.posz (Ev.tmp rfl) Ek Rr rfl (q:=0) (by omega)) ?_;refine kA5 ?_;refine yG rfl (D8 Q1.und Q1.size Q1.posz (Ev.tmp rfl) Ek Rr rfl (q:=1) (by omega)) ?_;refine kA1 ?_;refine c3o rfl rfl Ef (E2 Et Et) De (λfr=>a8T x (ih x hxm) _ xs _ _ (TOk.fr ((hT.part hxm).mono Sb) fr) (hF.part hxm) (hW.part hxm) (by omega)) Lb λa100 c100=>?_;refine yf rfl (E1 Et) (λfr=>a5b hg _ (by assumption) _) ?_;refine sB rfl B3 λb104=>?_
 refine W4 rfl rfl B3 (Ev.tmp rfl) (Ev.tmp rfl) Rr On hl3 (D4 (enc:=A3) _ (G2 e.o)) (by omega) (by omega) (λv'=>Up) Lb λa105 c105=>?_;refine SR.nil rfl rfl ?_;refine pD (.row _ _ _ _ _) ?_;refine xg (E2 Et Et) (a8T y (ih y hym) _ ((xs++B7 x)++[G2 e.o]) _ _ ((hT.part hym).mono Sb) (hF.part hym) (hW.part hym) (by omega)) ?_;rintro _ _ ⟨a110,c110,k110,e110,rfl,rfl⟩;refine kR a110 λp110 q110 r110=>?_
 subst e110;refine Z1 ?_;refine wT (.row (.slice a110 (((xs++B7 x)++[G2 e.o])++B7 y).length c110) 97 4 (((xs++B7 x)++[G2 e.o])++B7 y).length (fl A3 (((xs++B7 x)++[G2 e.o])++B7 y))::h) ?_;rw[we1];exact⟨_,_,_,rfl,rfl,rfl⟩
theorem tokens_ct{m:View}(hg:Glob m)(e:Ex)(h:List Res)(hT:TOk m h e)(hW:Wf e):CT prog 145 [exV e] h m
 (λv _ h'=>(F8 e=true/\∃a c,v=.tuple #[.slice a (A8 e).length c,.int .i64 0]/\h'=.row (.slice a (A8 e).length c) 97 4 (A8 e).length (fl A3 (A8 e))::h)\/(F8 e=false/\v=.tuple #[.slice none 0 0,.int .i64 2]/\h'=h)):=by
 refine cB [1,2,3,6] func145 λ_=>?_;refine xX λb1=>?_
 refine ZZ [2,1] ?_;refine xf (E1 Et) (may_ct hg e _ (hT.mono Sb) hW) ?_;refine Z1 ?_;refine wc ?_ ?_<;>intro c6
 have d6:F8 e=false:=by simpa using c6
 refine Z2 ?_;refine w2 h ?_;exact .inr ⟨d6,rfl,rfl⟩;have d6:F8 e=true:=by simpa using c6
 obtain⟨hF,hc⟩:=a46 d6;refine ZZ [0,1] ?_;refine WL.addNil 97 4 ?_;refine xg (E2 Ek Et) (c1F hg e _ [] none 0 (hT.mono Sb) hF hW (by simp;omega)) ?_;rintro _ _ ⟨a8,c8,k8,e8,rfl,rfl⟩;refine kR a8 λp8 q8 r8=>?_;subst e8;refine Z2 ?_;refine w2 (.row (.slice a8 (A8 e).length c8) 97 4 (A8 e).length (fl A3 (A8 e))::h) ?_;exact .inl ⟨d6,_,_,rfl,rfl⟩
end
section
open Go.Eng Go.Lx Go.Ty
theorem c4E{s:B}(h1:((s.length:Int)==1)=false)(h2:((s.length:Int)==2)=false):sym s=false:=by
 match s with
 | []=>rfl
 | [a]=>simp at h1
 | [a,b]=>simp at h2
 |a::b::c::s=>rfl
theorem c5h{s:B}(h:((s.length:Int)==1)=true):∃a,s=[a]:=by
 match s with
 | []=>simp at h
 | [a]=>exact⟨a,rfl⟩
 |a::b::s=>simp at h;omega
theorem c5X{s:B}(h:((s.length:Int)==2)=true):∃a b,s=[a,b]:=by
 match s with
 | []=>simp at h
 | [a]=>simp at h
 | [a,b]=>exact⟨a,b,rfl⟩
 |a::b::c::s=>simp at h;omega
theorem b5H(s:B)(h:List Res)(m:View)(hg:Glob m):CT prog 247 [str s] h m (A7 h (.bool (sym s))):=by
 refine cB [0,2,4,5,9] func247 λ_=>?_;refine ZZ [1,1] ?_;refine xG (I8 uu9 Et) ?_;refine ZZ [0,2,0] ?_;refine wc ?_ ?_<;>intro c5
 obtain⟨a,rfl⟩:=c5h c5;refine kA1 ?_;refine xf (E2 Ek Et) (CT.argsE rfl (a1P hg b4B [a] (by decide) _)) ?_;refine Z1 ?_;refine wT h ?_;exact⟨rfl,rfl⟩;refine Z2 ?_;refine wc ?_ ?_<;>intro c9
 obtain⟨a,b,rfl⟩:=c5X c9;refine kA1 ?_;refine xG (I9 uu9 Et Ek (q:=0) rfl (c:=a) rfl) ?_;refine kA3 ?_;refine zG (λhc=>I9 uu9 (Eg hc) Ek (q:=1) rfl (c:=b) rfl) ?_;refine kA4 ?_;refine E8 (GU.t rfl rfl) (λhc=>R2 Ek (Eg hc) (by simp)) Lb ?_;refine E8 (GU.t rfl rfl) (λhc=>R2 (Eg hc) Ek (by simp)) Lb ?_;refine A4 (GU.t rfl rfl) (λhc=>⟨Ef,(E2 Ek (Eg hc)),CT.argsE rfl (a1P hg a5k ([32]++[a,b]++[32]) (by decide) _)⟩) Lb ?_;refine Z2 ?_;refine wT h ?_;exact⟨rfl,rfl⟩;refine ZZ [0,1,0] ?_;refine wT h ?_;exact⟨by rw[c4E c5 c9],rfl⟩
theorem b5m(t:Tok)(h:List Res)(m:View)(hg:Glob m)(hs:t.text.length<=140737488355328):CT prog 147 [O4 t] h m (A7 h (.bool (J7 t))):=by
 have hs':t.text.length<=9223372036854775807:=by omega
 refine cB [1,2,10,12,13,23,33,43] func147 λ_=>?_;refine xX λb1=>?_
 refine ZZ [1,8,0] ?_;refine wc ?_ ?_<;>intro c10
 have d:J7 t=false:=by unfold J7;rw[c10];rfl
 refine Z1 ?_;refine wT h ?_;rw[d];exact⟨rfl,rfl⟩
 refine ZZ [0,2,2,0] ?_;refine wc ?_ ?_<;>intro c13
 refine kA6 ?_;refine A4 (GU.t rfl rfl) (λhc=>⟨Ef,(E1 (Eg hc)),a1d _ _ _ hg (by assumption)⟩) Lb ?_;refine Z2 ?_;refine wT h ?_;exact⟨by unfold J7;rw[c10,c13];rfl,rfl⟩;refine Z2 ?_;refine wc ?_ ?_<;>intro c23
 refine kA6 ?_;refine A4 (GU.t rfl rfl) (λhc=>⟨Ef,(E1 (Eg hc)),a7X _ _ _ hg (by assumption)⟩) Lb ?_;refine Z2 ?_;refine wT h ?_;exact⟨by unfold J7;rw[c10,c13,c23];rfl,rfl⟩;refine Z2 ?_;refine wc ?_ ?_<;>intro c33
 refine kA6 ?_;refine A4 (GU.t rfl rfl) (λhc=>⟨Ef,(E1 (Eg hc)),b5H _ _ _ hg⟩) Lb ?_;refine Z2 ?_;refine wT h ?_;exact⟨by unfold J7;rw[c10,c13,c23,c33];rfl,rfl⟩;refine Z2 ?_;refine wc ?_ ?_<;>intro c43
 refine kA2 ?_;refine xG (H3 Et Ek) ?_;refine Z11 ?_;refine wT h ?_;exact⟨by unfold J7;rw[c10,c13,c23,c33,c43];rfl,rfl⟩;refine ZZ [0,6] ?_;refine zG (λhc=>H3 (Eg hc) Ek) ?_;refine Z2 ?_;refine wT h ?_;exact⟨by unfold J7;rw[c10,c13,c23,c33,c43];rfl,rfl⟩
abbrev rdr(b:Nat)(line:B)(p:Nat):Res:=.pt b (.cells [str line,Value.int .i64 p].toArray 241 (0,0))
theorem a2t(b:Nat)(line:B)(p:Nat)(h:List Res)(m:View)(hr:rdr b line p∈h)(hp:p<=line.length):CT prog 336 [.pointer (some ⟨b,0,none⟩)] h m (A7 h (str (line.drop p))):=by
 refine cB [0,2] func336 λ_=>?_;refine Z1 ?_;refine dS [] (.op 0 (.op 1 (.op 2 (.op 3 (.op 4 (.op 5 (.op 6 (.op 7 .nil)))))))) [8,9] C4 ?_;refine kA3 ?_;refine yG rfl (E9 uu9 rfl Et hr rfl) ?_;refine kA3 ?_;refine yG rfl (E9 uu3 rfl Et hr rfl) ?_;refine SR.nil rfl rfl ?_;refine xG (a6B uu9 Et Et rfl (by omega)) ?_;refine Z1 ?_;refine wT h ?_;exact⟨rfl,rfl⟩
abbrev tkR(p:Tok×Nat):Value:=.tuple #[O4 p.1,.int .i64 p.2]
theorem c04(b:Nat)(line:B)(p:Nat)(h:List Res)(m:View)(hg:Glob m)(hr:rdr b line p∈h)(hp:p<=line.length)(hs:line.length<=140737488355328):CT prog 275 [.pointer (some ⟨b,0,none⟩)] h m (A7 h (tkR (a4F (line.drop p)))):=by
 have hl:(line.drop p).length<=140737488355328:=by rw[List.length_drop];omega
 have hl':(line.drop p).length<=9223372036854775807:=by omega
 have hrun:=a6H (line.drop p);have hlt:((line.drop p).take (run (line.drop p))).length<=140737488355328:=by rw[List.length_take];omega
 have hlt':((line.drop p).take (run (line.drop p))).length<=9223372036854775807:=by omega
 refine cB [0,2,3,4,5,13,19] func275 λ_=>?_;refine xW λb2=>?_
 refine ZZ [1,1] ?_;refine xf (E1 Et) (a2t b line p _ _ (List.Mem.tail _ hr) hp) ?_;refine xf (E1 Et) (a7T _ _ _ (by assumption)) ?_;refine ZZ [1,1] ?_;refine xf (E1 Et) (a2t b line p _ _ (List.Mem.tail _ hr) hp) ?_;refine kA1 ?_;refine xG (a6s uu9 Et Et rfl (by omega)) ?_;refine ZZ [1,1] ?_;refine xf (E1 Et) (a7X _ _ _ hg (by assumption)) ?_;refine Z1 ?_;refine wc ?_ ?_<;>intro c13
 refine Z5 ?_;refine w2 h (h1:=cA M4) ?_;exact⟨by unfold a4F;rw[c13];rfl,rfl⟩;refine Z3 ?_;refine wc ?_ ?_<;>intro c19
 refine Z3 ?_;refine w2 h (h1:=cA M4) ?_;exact⟨by unfold a4F;rw[c13,c19];rfl,rfl⟩;refine ZZ [0,5,0] ?_;refine w2 h (h1:=cA M4) ?_;exact⟨by unfold a4F;rw[c13,c19];rfl,rfl⟩
theorem b5u{b c:Nat}{s:B}{zs:List Value}{e:TypeId}{f:Nat×Nat}{h:List Res}{m:View}(h1:s.length<=c)(h2:c<=9223372036854775807):Rd m (.pt b (.cells (bv s++zs).toArray e f)::h) (some ⟨b,0,none⟩) s.length c 1 (bv s):=
 Rd.ofPtP (by rw[b3y];exact(Nat.mul_one _).symm) h1 h2 (List.Mem.head _)
theorem b8S(c:UInt8)(l:B)(v:Int):b0R (c::l) v=if !dig c.toNat then none else b0R l (10*v+((c.toNat:Int)-48)):=rfl
theorem p10{v:Int}{k:Nat}(h:v<10^k)(hk:k<=10):v<10000000000:=
 Int.lt_of_lt_of_le h (show(10:Int)^k<=10^10 by exact_mod_cast Nat.pow_le_pow_right (by decide) hk)
theorem c8I{c:UInt8}(h:dig c.toNat=true):IntKind.u8.wrap ((c.toNat:Int)-48)=(c.toNat:Int)-48/\0<=(c.toNat:Int)-48/\(c.toNat:Int)-48<10:=by unfold dig at h;simp at h;unfold IntKind.wrap;simp[IntKind.bits,IntKind.signed];omega
theorem c7n{v:Int}(h:0<=v/\v<10):IntKind.i64.wrap v=v:=by unfold IntKind.wrap;simp[IntKind.bits,IntKind.signed];omega
theorem c5V(v:Int):IntKind.i64.wrap (IntKind.i32.wrap v)=IntKind.i32.wrap v:=by unfold IntKind.wrap;simp[IntKind.bits,IntKind.signed];omega
theorem c6W(b:Nat)(line:B)(p:Nat)(h:List Res)(m:View)(hr:rdr b line p∈h)(hp:p<=line.length)(hs:line.length<=140737488355328):CT prog 276 [.pointer (some ⟨b,0,none⟩)] h m (A7 h (tkR (b0U (line.drop p)))):=by
 have hl:(line.drop p).length<=140737488355328:=by rw[List.length_drop];omega
 have hl':(line.drop p).length<=9223372036854775807:=by omega
 have hrun:=a6H (line.drop p);have hlen:((line.drop p).take (run (line.drop p))).length=run (line.drop p):=by rw[List.length_take];omega
 have hlt':((line.drop p).take (run (line.drop p))).length<=9223372036854775807:=by omega
 refine cB [0,2,3,4,5,7,12,18,19,20,21,26,39] func276 λ_=>?_;refine xW λb2=>?_
 refine ZZ [1,1] ?_;refine xf (E1 Et) (a2t b line p _ _ (List.Mem.tail _ hr) hp) ?_;refine xf (E1 Et) (a7T _ _ _ (by assumption)) ?_;refine ZZ [1,2,0] ?_;refine wc ?_ ?_<;>intro c12
 refine Z3 ?_;refine w2 h (h1:=cA M4) ?_;exact⟨by unfold b0U;rw[c12];rfl,rfl⟩;have h10:run (line.drop p)<=10:=by simp at c12;omega
 generalize hs0:(line.drop p).take (run (line.drop p))=s at *;refine ZZ [0,1,1] ?_;refine xf (E1 Et) (a2t b line p _ _ (List.Mem.tail _ hr) hp) ?_;refine kA1 ?_;refine xG (a6s uu9 Et Et rfl (by omega)) ?_;refine WL.val (v':=str s) (congrArg str hs0) ?_;refine a8o uu9 b5w uu5 Et Lb (by assumption) λb18 z18 f18 c18 e18 g18=>?_;refine Z2 ?_;refine B1 [2,4,18,19] rfl (λμ F' h'=>∃k:Nat,∃v:Int,((k<=s.length/\b0R s 0=b0R (s.drop k) v)/\0<=v/\v<10^k)/\s.length-k=μ/\F'=[(5,.int .i64 v),(20,.int .i64 k)]/\.pt b18 (.cells (bv s++z18).toArray 5 f18)::.pt b2 (.cells (A3 zeroK).toArray 97 (0,0))::h=h') (s.length-0) [(5,.int .i64 0),(20,.int .i64 0)] (h0:=.pt b18 (.cells (bv s++z18).toArray 5 f18)::.pt b2 (.cells (A3 zeroK).toArray 97 (0,0))::h) ?_ Sb ⟨0,0,⟨⟨by omega,rfl⟩,by decide,by decide⟩,rfl,rfl,rfl⟩ ?_;exact Su;rintro _ _ _ ⟨k,v,⟨⟨hk,hJ⟩,hv0,hv1⟩,rfl,rfl,rfl⟩;refine B2 rfl ?_;refine Z1 ?_;refine wD ?_ ?_<;>intro c21
 obtain⟨c,hc⟩:=A5 (l:=s) (k:=k) (by omega);have hv:=p10 hv1 (by omega);have hR:=b5u (b:=b18) (zs:=z18) (e:=5) (f:=f18) (h:=.pt b2 (.cells (A3 zeroK).toArray 97 (0,0))::h) (m:=m) e18 g18;have hd:s.drop k=c::s.drop (k+1):=by rw[List.drop_eq_getElem_cons (by omega),(List.getElem?_eq_some_iff.1 hc).2]
 rw[hd,b8S]at hJ;refine ZZ [0,1] ?_;refine xG (b4d uu5 rfl Rr (Ev.tmp rfl) (by assumption)) ?_;refine ZZ [1,1] ?_;refine xf (E1 Et) (a9L _ _ _) ?_;refine Z1 ?_;refine wc ?_ ?_<;>intro c26
 rw[c26]at hJ;refine Z3 ?_;refine w2 h (h1:=cA M4) ?_;exact⟨by unfold b0U;rw[c12,hs0];simp only[Bool.false_eq_true,if_false,hJ];rfl,rfl⟩;have d26:dig c.toNat=true:=by simpa using c26
 rw[c26]at hJ;obtain⟨w1,w2,w3⟩:=c8I d26;have hp1:10*v+((c.toNat:Int)-48)<10^(k+1):=by rw[Int.pow_succ];omega
 refine ZZ [0,1] ?_;refine xG (a8X Ek Et (by omega)) ?_;refine kA2 ?_;refine WL.val (v':=.int .u8 ((c.toNat:Int)-48)) (congrArg (Value.int .u8) w1) ?_;refine xG (PO.conv uu5 uu2 Et) ?_;refine WL.val (v':=.int .i64 ((c.toNat:Int)-48)) (congrArg (Value.int .i64) (c7n ⟨w2,w3⟩)) ?_;refine xG (L6 Et Et (by omega)) ?_;refine ZZ [1,2] ?_;refine WL.nil (A6 (s.length-(k+1)) [(5,.int .i64 (10*v+((c.toNat:Int)-48))),(20,.int .i64 (k+1))] (h'':=.pt b18 (.cells (bv s++z18).toArray 5 f18)::.pt b2 (.cells (A3 zeroK).toArray 97 (0,0))::h) (by omega) ?_ Su Sb ⟨k+1,10*v+((c.toNat:Int)-48),⟨⟨by omega,by simpa using hJ⟩,by omega,hp1⟩,rfl,rfl,rfl⟩);exact Su;have hv:=p10 hv1 (by omega);rw[List.drop_eq_nil_of_le (by omega)]at hJ;refine ZZ [0,2] ?_;refine xG (PO.conv uu2 a1X Et) ?_;refine xG (PO.conv a1X uu2 Et) ?_
 refine WL.val (v':=.int .i64 (IntKind.i32.wrap v)) (congrArg (Value.int .i64) (c5V v)) ?_;refine Z1 ?_;refine wc ?_ ?_<;>intro c39
 refine Z3 ?_;refine w2 h (h1:=cA M4) ?_;exact⟨by unfold b0U;rw[c12,hs0];simp only[Bool.false_eq_true,if_false,hJ,b0R,c39,if_true];rfl,rfl⟩;refine ZZ [0,1] ?_;refine xG (PO.conv uu2 a1X Et) ?_;refine Z4 ?_;refine w2 h (h1:=cA M4) ?_;exact⟨by unfold b0U;rw[c12,hs0];simp only[Bool.false_eq_true,if_false,hJ,b0R,c39];rfl,rfl⟩
theorem b0M(l:B)(c:UInt8)(h:List Res)(m:View):CT prog 160 [str l,.int .u8 c.toNat] h m (A7 h (.int .i64 (Lib.indexByte l c))):=
 CT.ofCalls call160 λw _=>by
  have:=Tryz.strings_IndexByte ⟨l.toArray⟩ c.toNat w;simpa using this
theorem p16{v:Int}{k:Nat}(h:v<16^k)(hk:k<=7):v<268435456:=
 Int.lt_of_lt_of_le h (show(16:Int)^k<=16^7 by exact_mod_cast Nat.pow_le_pow_right (by decide) hk)
theorem c5r{v:Int}(h:0<=v/\v<268435456):c5B .u32 v 4=16*v:=by unfold c5B IntKind.wrap;simp[IntKind.bits,IntKind.signed];omega
theorem a9T{v:Int}(h:0<=v/\v<4294967296):IntKind.u32.wrap v=v:=by unfold IntKind.wrap;simp[IntKind.bits,IntKind.signed];omega
theorem c5J{v d:Int}(hv:0<=v/\v<268435456)(hd:0<=d/\d<16):bor .u32 (16*v) d=16*v+d:=by
 obtain⟨a,rfl⟩:∃a:Nat,v=a:=⟨v.toNat,by omega⟩;obtain⟨b,rfl⟩:∃b:Nat,d=b:=⟨d.toNat,by omega⟩;have e:(BitVec.ofInt 32 (16*(a:Int))|||BitVec.ofInt 32 (b:Int)).toNat=16*a+b:=by rw[show(16*(a:Int))=((16*a:Nat):Int) by simp,BitVec.ofInt_natCast,BitVec.ofInt_natCast,BitVec.toNat_or,BitVec.toNat_ofNat,BitVec.toNat_ofNat,Nat.mod_eq_of_lt (by omega),Nat.mod_eq_of_lt (by omega)];have:=Nat.shiftLeft_add_eq_or_of_lt (b:=b) (i:=4) (by omega) a;rw[Nat.shiftLeft_eq]at this;rw[Nat.mul_comm 16 a];exact this.symm
 unfold bor;rw[show IntKind.u32.bits=32 from rfl,e,a9T (by omega)];simp
theorem b9v(c:UInt8)(l:B)(v:Int):b4U (c::l) v=if decide (a6q c<0)then none else b4U l (16*v+a6q c):=rfl
theorem a60(c:UInt8):∀l:B,Lib.indexByte l c<=(l.length:Int)-1
 | []=>Int.le_refl (-1)
 |b::l=>by
  have ih:=a60 c l;unfold Lib.indexByte;rw[List.length_cons];split
  ·omega
  ·split<;>omega
theorem c4C(c:UInt8):a6q c<16:=by have:=a60 c H7;have e:(H7.length:Int)=16:=rfl;unfold a6q;omega
theorem b7J(s:B)(h:List Res)(m:View)(hs:s.length<=8):CT prog 337 [str s] h m (A7 h (.tuple #[.int .u32 (a1t s).1,.bool (a1t s).2])):=by
 have hs':s.length<=9223372036854775807:=by omega
 refine cB [0,2,3,5,6,8,9,10,11,17] func337 λ_=>?_;refine ZZ [2,1] ?_;refine a8o uu9 b5w uu5 Et Lb (by assumption) λb8 z8 f8 c8 e8 g8=>?_
 refine Z2 ?_;refine B1 [0,8,9] rfl (λμ F' h'=>∃k:Nat,∃v:Int,((k<=s.length/\b4U s 0=b4U (s.drop k) v)/\0<=v/\v<16^k)/\s.length-k=μ/\F'=[(2,.int .u32 v),(10,.int .i64 k)]/\.pt b8 (.cells (bv s++z8).toArray 5 f8)::h=h') (s.length-0) [(2,.int .u32 0),(10,.int .i64 0)] (h0:=.pt b8 (.cells (bv s++z8).toArray 5 f8)::h) ?_ Sb ⟨0,0,⟨⟨by omega,rfl⟩,by decide,by decide⟩,rfl,rfl,rfl⟩ ?_;exact Su;rintro _ _ _ ⟨k,v,⟨⟨hk,hJ⟩,hv0,hv1⟩,rfl,rfl,rfl⟩;refine B2 rfl ?_;refine Z1 ?_;refine wD ?_ ?_<;>intro c11
 obtain⟨c,hc⟩:=A5 (l:=s) (k:=k) (by omega);have hv:=p16 hv1 (by omega);have hR:=b5u (b:=b8) (zs:=z8) (e:=5) (f:=f8) (h:=h) (m:=m) e8 g8;have hd:s.drop k=c::s.drop (k+1):=by rw[List.drop_eq_getElem_cons (by omega),(List.getElem?_eq_some_iff.1 hc).2]
 rw[hd,b9v]at hJ;refine ZZ [0,1] ?_;refine xG (b4d uu5 rfl Rr (Ev.tmp rfl) (by assumption)) ?_;refine ZZ [1,1] ?_;refine xf (E2 Ek Et) (CT.argsE rfl (b0M H7 c _ _)) ?_;refine WL.val (v':=.int .i64 (a6q c)) rfl ?_;refine ZZ [1,2,0] ?_;refine wc ?_ ?_<;>intro c17
 rw[c17]at hJ;refine Z2 ?_;refine w2 h ?_;exact⟨by unfold a1t;rw[hJ];rfl,rfl⟩;rw[c17]at hJ;have d17:¬a6q c<0:=dF c17;have dlt:=c4C c;have hp1:16*v+a6q c<16^(k+1):=by rw[Int.pow_succ];omega
 refine ZZ [0,1] ?_;refine xG (PO.shl Et Ek (by decide)) ?_;refine WL.val (v':=.int .u32 (16*v)) (congrArg (Value.int .u32) (c5r ⟨hv0,hv⟩)) ?_;refine kA1 ?_;refine xG (PO.conv uu3 b5D Et) ?_;refine WL.val (v':=.int .u32 (a6q c)) (congrArg (Value.int .u32) (a9T (by omega))) ?_;refine kA1 ?_;refine WL.val (v':=.int .u32 (16*v+a6q c)) (congrArg (Value.int .u32) (c5J ⟨hv0,hv⟩ (by omega))) ?_;refine ZZ [1,2] ?_;refine WL.nil (A6 (s.length-(k+1)) [(2,.int .u32 (16*v+a6q c)),(10,.int .i64 (k+1))] (h'':=.pt b8 (.cells (bv s++z8).toArray 5 f8)::h) (by omega) ?_ Su Sb ⟨k+1,16*v+a6q c,⟨⟨by omega,by simpa using hJ⟩,by omega,hp1⟩,rfl,rfl,rfl⟩);exact Su;rw[List.drop_eq_nil_of_le (by omega)]at hJ;refine ZZ [0,2] ?_;refine xG (S2 Et Ek) ?_;refine Z2 ?_;refine w2 h ?_;exact⟨by unfold a1t;rw[hJ];rfl,rfl⟩
theorem c8o(b:Nat)(line:B)(p:Nat)(h:List Res)(m:View)(hr:rdr b line p∈h)(hp:p<line.length)(hs:line.length<=140737488355328):CT prog 277 [.pointer (some ⟨b,0,none⟩)] h m (A7 h (tkR (b3I (line.drop p)))):=by
 have hl0:(line.drop p).length=line.length-p:=List.length_drop;have hl:((line.drop p).drop 1).length<=140737488355328:=by rw[List.length_drop];omega
 have hl':((line.drop p).drop 1).length<=9223372036854775807:=by omega
 have hrun:=a6H ((line.drop p).drop 1);have hlen:((line.drop p).drop 1).length=line.length-p-1:=by rw[List.length_drop,hl0]
 refine cB [0,2,3,4,5,6,12,24] func277 λ_=>?_;refine xW λb2=>?_
 refine ZZ [1,1] ?_;refine xf (E1 Et) (a2t b line p _ _ (List.Mem.tail _ hr) (by omega)) ?_;refine xG (a6B uu9 Et Ek (l:=1) rfl (by omega)) ?_;refine xf (E1 Et) (a7T _ _ _ (by assumption)) ?_;refine ZZ [1,2,0] ?_;refine wc ?_ ?_<;>intro c12
 refine Z3 ?_;refine w2 h (h1:=cA M4) ?_;exact⟨by unfold b3I;rw[c12];rfl,rfl⟩;have h8:run ((line.drop p).drop 1)<=8:=by have:=of_decide_eq_false c12;omega
 have h8':(((line.drop p).drop 1).take (run ((line.drop p).drop 1))).length<=8:=by rw[List.length_take];omega
 refine ZZ [0,1] ?_;refine xf (E1 Et) (a2t b line p _ _ (List.Mem.tail _ hr) (by omega)) ?_;refine kA1 ?_;refine xG (L6 Ek Et (by omega)) ?_;refine WL.val (v':=.int .i64 ((1+run ((line.drop p).drop 1):Nat):Int)) (congrArg (Value.int .i64) (by omega)) ?_;refine xG (V3 uu9 Et Ek Et (l:=1) rfl rfl (by omega) (by omega)) ?_;refine WL.val (v':=str (((line.drop p).drop 1).take (run ((line.drop p).drop 1)))) (by rw[Nat.add_sub_cancel_left]) ?_;refine xf (E1 Et) (b7J _ _ _ (by assumption)) ?_;refine ZZ [5,2,0] ?_;refine wc ?_ ?_<;>intro c24
 refine Z3 ?_;refine w2 h (h1:=cA M4) ?_;exact⟨by unfold b3I;rw[c12];simp only[Bool.false_eq_true,if_false,c24,if_true];rfl,rfl⟩;refine ZZ [0,1] ?_;refine xG (PO.conv b5D a1X Et) ?_;refine kA2 ?_;refine xG (L6 Ek Et (by omega)) ?_;refine Z2 ?_;refine w2 h (h1:=cA M4) ?_;exact⟨by unfold b3I;rw[c12];simp only[Bool.false_eq_true,if_false,c24];rfl,rfl⟩
theorem b3T{s:B}{i:Nat}{c:UInt8}(h:s[i]?=some c):chB s i=(c.toNat:Int):=by unfold chB;rw[List.getD_eq_getElem?_getD,h];rfl
theorem b2s{v:Int}(h:0<=v/\v<256):IntKind.i32.wrap v=v:=by unfold IntKind.wrap;simp[IntKind.bits,IntKind.signed];omega
theorem b7S(c:UInt8):IntKind.i32.wrap (c.toNat:Int)=(c.toNat:Int):=b2s ⟨by omega,by have:=c.toNat_lt;omega⟩
theorem c3G{s:B}(h:s.length<=2):0<=(a1t s).1/\(a1t s).1<256:=by
 unfold a1t;rw[a5p];cases hv:a8E 16 s 0 with
 |none=>exact⟨Int.le_refl 0,show(0:Int)<256 by decide⟩
 |some v=>
  have hb:=a3a (by decide) a5F s 0 v (by decide) hv;have hp:(16:Int)^s.length<=16^2:=by exact_mod_cast Nat.pow_le_pow_right (by decide) h
  simp only;omega
theorem c5F(s:B)(h:List Res)(m:View)(hs:s.length<=9223372036854775807):CT prog 338 [str s] h m (A7 h (.tuple #[.int .i32 (O3 s).1,.int .i64 (O3 s).2])):=by
 match s with
 | []=>
  refine cB [0,2,3,7] func338 λ_=>?_;refine ZZ [2,1] ?_;refine xG (H3 Et Ek) ?_;refine kA2 ?_;refine E8 (GU.f rfl rfl) (λhc=>I9 uu9 (Eg hc) Ek (q:=0) rfl (c:=0) (by simp at hc)) Lb ?_;refine kA4 ?_;refine E8 (GU.f rfl rfl) (λhc=>I9 uu9 (Eg hc) Ek (q:=0) rfl (c:=0) (by simp at hc)) Lb ?_;refine kA4 ?_;refine E8 (GU.f rfl rfl) (λhc=>I9 uu9 (Eg hc) Ek (q:=0) rfl (c:=0) (by simp at hc)) Lb ?_;refine Z3 ?_;refine wc ?_ ?_<;>intro c7
  refine Z2 ?_;refine w2 h ?_;exact⟨rfl,rfl⟩;simp at c7
 |a::t=>
  refine cB [0,2,3,4,5,6,7,25,32,40,51,59] func338 λ_=>?_;refine ZZ [2,1] ?_;refine xG (H3 Et Ek) ?_;refine kA2 ?_;refine zG (λhc=>I9 uu9 (Eg hc) Ek (q:=0) rfl (c:=a) rfl) ?_;refine kA4 ?_;refine zG (λhc=>I9 uu9 (Eg hc) Ek (q:=0) rfl (c:=a) rfl) ?_;refine kA4 ?_;refine zG (λhc=>I9 uu9 (Eg hc) Ek (q:=0) rfl (c:=a) rfl) ?_;refine Z3 ?_;refine wc ?_ ?_<;>intro c7
  have d7:((a::t==[])||decide (chB (a::t) 0<32)||decide (chB (a::t) 0>126)||(chB (a::t) 0==39))=true:=c7;refine Z2 ?_;refine w2 h ?_;exact⟨by unfold O3;rw[d7];rfl,rfl⟩;have d7:((a::t==[])||decide (chB (a::t) 0<32)||decide (chB (a::t) 0>126)||(chB (a::t) 0==39))=false:=c7;refine kA1 ?_;refine xG (I9 uu9 Et Ek (q:=0) rfl (c:=a) rfl) ?_;refine Z2 ?_;refine wc ?_ ?_<;>intro c25
  have d25:(chB (a::t) 0 !=42)=true:=c25;refine kA1 ?_;refine xG (I9 uu9 Et Ek (q:=0) rfl (c:=a) rfl) ?_;refine xG (PO.conv uu5 a1X Et) ?_;refine WL.val (v':=.int .i32 (a.toNat:Int)) (congrArg (Value.int .i32) (b7S a)) ?_;refine Z2 ?_;refine w2 h ?_;exact⟨by unfold O3;rw[d7,d25];rfl,rfl⟩;have d25:(chB (a::t) 0 !=42)=false:=c25;refine kA1 ?_;refine xG (I8 uu9 Et) ?_;refine Z2 ?_;refine wc ?_ ?_<;>intro c32
  refine Z2 ?_;refine w2 h ?_;exact⟨by unfold O3;rw[d7,d25,c32];rfl,rfl⟩;have h2:2<=(a::t).length:=by simp at c32⊢;omega
  obtain⟨c1,hc1⟩:=A5 (l:=a::t) (k:=1) (by omega);have g1:(a::t).getD 1 0=c1:=by rw[List.getD_eq_getElem?_getD,hc1];rfl
  refine ZZ [0,1] ?_;refine xG (I9 uu9 Et Ek (q:=1) rfl (by assumption)) ?_;refine xf (E2 Ek Et) (CT.argsE rfl (b0M a7u c1 _ _)) ?_;refine WL.val (v':=.int .i64 (esc c1)) rfl ?_;refine ZZ [1,2,0] ?_;refine wc ?_ ?_<;>intro c40
  have d40:decide (esc ((a::t).getD 1 0)>=0)=true:=by rw[g1];exact c40
  have he0:0<=esc c1:=dT c40;have he1:(esc c1).toNat<7:=by have:=a60 c1 a7u;have e:(a7u.length:Int)=7:=rfl;unfold esc at he0⊢;omega
  obtain⟨x,hx⟩:=A5 (l:=a2X) (k:=(esc c1).toNat) he1;refine kA1 ?_;refine WL.val (v':=.int .i64 ((esc c1).toNat:Int)) (congrArg (Value.int .i64) (by omega)) ?_;refine xG (I9 uu9 Ek Et rfl (by assumption)) ?_;refine xG (PO.conv uu5 a1X Et) ?_;refine WL.val (v':=.int .i32 (x.toNat:Int)) (congrArg (Value.int .i32) (b7S x)) ?_;refine Z2 ?_;refine w2 h ?_;exact⟨by unfold O3;rw[d7,d25,c32,d40,g1,b3T hx];rfl,rfl⟩;have d40:decide (esc ((a::t).getD 1 0)>=0)=false:=by rw[g1];exact c40
  refine ZZ [0,1] ?_;refine xG (I9 uu9 Et Ek (q:=1) rfl (by assumption)) ?_;refine kA3 ?_;refine zG (λhc=>I8 uu9 (Eg hc)) ?_;refine Z2 ?_;refine wc ?_ ?_<;>intro c51
  have d51:((chB (a::t) 1 !=35)||decide (((a::t).length:Int)<4))=true:=by rw[b3T hc1];exact c51
  refine Z2 ?_;refine w2 h ?_;exact⟨by unfold O3;rw[d7,d25,c32,d40,d51];rfl,rfl⟩;have d51:((chB (a::t) 1 !=35)||decide (((a::t).length:Int)<4))=false:=by rw[b3T hc1];exact c51
  have h4:4<=(a::t).length:=by simp at c51⊢;omega
  have hsl:(((a::t).drop 2).take 2).length<=8:=by rw[List.length_take];omega
  have hx:=c3G (s:=((a::t).drop 2).take 2) (by rw[List.length_take];omega);refine ZZ [0,1] ?_;refine xG (V3 uu9 Et Ek Ek (l:=2) (u:=4) rfl rfl (by omega) (by omega)) ?_;refine WL.val (v':=str (((a::t).drop 2).take 2)) rfl ?_;refine xf (E1 Et) (b7J _ _ _ (by assumption)) ?_;refine ZZ [5,2,0] ?_;refine wc ?_ ?_<;>intro c59
  refine Z2 ?_;refine w2 h ?_;exact⟨by unfold O3;rw[d7,d25,c32,d40,d51,c59];rfl,rfl⟩;refine ZZ [0,1] ?_;refine xG (PO.conv b5D a1X Et) ?_;refine WL.val (v':=.int .i32 (a1t (((a::t).drop 2).take 2)).1) (congrArg (Value.int .i32) (b2s hx)) ?_;refine Z2 ?_;refine w2 h ?_;exact⟨by unfold O3;rw[d7,d25,c32,d40,d51,c59];rfl,rfl⟩
end
section
open Go.Eng Go.Xp Go
open Go.Ty (Tok A3 B8 O4)
open Go.Lx (J7)
theorem a3l{h hs:List Res}(q:h.Sublist hs)(fr:List Res):h.Sublist (fr++hs):=q.trans (List.sublist_append_right fr hs)
abbrev K4(b:Nat)(a:Option Addr)(c:Nat)(ts:List Tok)(k:Int)(o:Int):Res:=.pt b (.cells [.slice a ts.length c,.int .i64 k,.int .i64 o].toArray 329 (0,0))
structure Tks(m:View)(h:List Res)(a:Option Addr)(c:Nat)(ts:List Tok):Prop where
 rd:Rd m h a ts.length c 4 (fl A3 ts)
 le:ts.length<=1000000
 tx:∀t∈ts,t.text.length<=140737488355328
theorem Tks.mono{m:View}{h h':List Res}{a:Option Addr}{c:Nat}{ts:List Tok}(q:Tks m h a c ts)(s:h.Sublist h'):Tks m h' a c ts:=⟨q.rd.mono Vl s,q.le,q.tx⟩
theorem U2{m:View}(hg:Glob m)(b:Nat)(a:Option Addr)(c:Nat)(ts:List Tok)(k:Nat)(o:Int)(h:List Res)(hr:K4 b a c ts k o∈h)(hk:Tks m h a c ts):CT prog 354 [.pointer (some ⟨b,0,none⟩)] h m (A7 h (O4 (D9 (ts.drop k)))):=by
 have hrd:=hk.rd;have hle:=hk.le;obtain⟨t,ht⟩:∃t,t=ts.getD k zeroT:=⟨_,rfl⟩;have hel:k<ts.length->ts[k]?=some t:=λhq=>by rw[ht,List.getD_eq_getElem?_getD,List.getElem?_eq_getElem hq];rfl
 have htx:t.text.length<=140737488355328:=by
  rcases Nat.lt_or_ge k ts.length with hq|hq
  ·exact hk.tx t (List.mem_of_getElem? (hel hq))
  ·rw[ht,List.getD_eq_getElem?_getD,List.getElem?_eq_none hq];decide
 refine cB [0,2,3,27] func354 λ_=>?_;refine xW λb2=>?_
 refine Z0 ?_;refine dS [] (.op 0 (.op 1 (.op 2 (.op 3 (.op 4 (.op 5 (.op 6 (.op 7 (.op 8 (.op 9 (.op 10 (.op 11 (.op 12 (.op 13 (.op 14 (.op 15 (.op 16 (.op 17 (.op 18 .nil))))))))))))))))))) [19,20,21,22,23] C4 ?_;refine kA3 ?_;refine yG rfl (E9 uu3 rfl Et (List.mem_cons_of_mem _ hr) rfl) ?_;refine kA3 ?_;refine yG rfl (E9 a4J rfl Et (List.mem_cons_of_mem _ hr) rfl) ?_;refine yG rfl (Y8 a4J Et) ?_;refine yG rfl (P0 Et Et rfl) ?_;refine kA1 ?_;refine C0 rfl rfl (GU.f rfl rfl) (λhc=>PO.move Et) Lb ?_;refine C0 rfl rfl (GU.f rfl rfl) (λhc=>PO.nilCheck (Eg hc)) Lb ?_;refine C0 rfl rfl (GU.f rfl rfl) (λhc=>PO.fieldAddr c3F rfl (Nat.ne_of_beq_eq_false rfl) (Eg hc)) Lb ?_;refine C0 rfl rfl (GU.f rfl rfl) (λhc=>E9 a4J rfl (Eg hc) (List.mem_cons_of_mem _ hr) rfl) Lb ?_;refine C0 rfl rfl (GU.f rfl rfl) (λhc=>PO.move Et) Lb ?_
 refine C0 rfl rfl (GU.f rfl rfl) (λhc=>PO.nilCheck (Eg hc)) Lb ?_;refine C0 rfl rfl (GU.f rfl rfl) (λhc=>PO.fieldAddr c3F rfl (Nat.ne_of_beq_eq_false rfl) (Eg hc)) Lb ?_;refine C0 rfl rfl (GU.f rfl rfl) (λhc=>E9 uu3 rfl (Eg hc) (List.mem_cons_of_mem _ hr) rfl) Lb ?_;refine SR.nil rfl rfl ?_;refine E8 (GU.f rfl rfl) (λhc=>D8 B3.und B3.size B3.posz (Eg hc) (Eg hc) Rr rfl (by simp at hc;omega)) Lb ?_;refine E8 (GU.f rfl rfl) (λhc=>a0Y M4 rfl rfl B8 Rr (Eg hc) (hel (by simp at hc;omega)) rfl rfl (Nat.succ_pos _)) Lb ?_;refine A4 (GU.f rfl rfl) (λhc=>⟨Ef,(E1 (Eg hc)),b5m t _ _ hg htx⟩) Lb ?_;refine Z2 ?_;refine wc ?_ ?_<;>intro c27
 have hz:D9 (ts.drop k)=zeroT:=by
  rcases Nat.lt_or_ge k ts.length with hq|hq
  ·rw[W5 (hel hq),a5V]
   have h1:decide ((k:Int)>=(ts.length:Int))=false:=decide_eq_false (by omega);rw[h1]at c27;have h2:J7 t=false:=by simpa using c27
   rw[h2];rfl
  ·rw[List.drop_eq_nil_of_le hq];rfl
 refine Z2 ?_;refine WC.ret (a2V (h':=h) (.inl rfl) rfl (G4 M4 rfl rfl rfl Me rfl) Vl Sb ?_);exact⟨by rw[hz];rfl,rfl⟩;have hq:k<ts.length:=by
  rcases Nat.lt_or_ge k ts.length with hq|hq
  ·exact hq
  ·have h1:decide ((k:Int)>=(ts.length:Int))=true:=decide_eq_true (by omega)
   rw[h1]at c27;cases c27
 have hx:=hel hq;have hz:D9 (ts.drop k)={ t with at_:=0 }:=by
  have h1:decide ((k:Int)>=(ts.length:Int))=false:=decide_eq_false (by omega);rw[h1]at c27;have h2:J7 t=true:=by simpa using c27
  rw[W5 hx,a5V,h2];rfl
 refine Z0 ?_;refine dS [10] (.op 0 (.op 1 (.op 2 (.op 3 (.op 4 (.op 5 (.op 6 (.op 7 (.op 8 (.op 9 (.op 10 .nil))))))))))) [11] C4 ?_;refine kA3 ?_;refine yG rfl (E9 a4J rfl Et (List.mem_cons_of_mem _ hr) rfl) ?_;refine kA3 ?_;refine yG rfl (E9 uu3 rfl Et (List.mem_cons_of_mem _ hr) rfl) ?_;refine kA2 ?_;refine SR.alloc rfl rfl rfl rfl Lb λb3=>?_;refine SR.nil rfl rfl ?_;refine ZZ [1,2,2,0] ?_;refine WC.ret (a2V (h':=h) (.inl rfl) rfl (G4 M4 rfl rfl rfl Me rfl) Vl Sb ?_);exact⟨by rw[hz];rfl,rfl⟩
abbrev c2D(e:Int):Value:=.iface 325 (.agg #[.int .i64 e])
theorem a0U{t u:Tok}(h:Go.Ty.eqK t u=true):t=u:=(Go.Ty.eqK_iff t u).1 h
theorem a0V{t u:Tok}(h:Go.Ty.eqK t u=false):t≠u:=λq=>by rw[(Go.Ty.eqK_iff t u).2 q]at h;cases h
theorem W7{k:Nat}{ts:List Tok}(h:(D9 (ts.drop k)).kind≠0):k<ts.length:=c5c (b9X h)
theorem b7K{m:View}(hg:Glob m)(b:Nat)(a:Option Addr)(c:Nat)(ts:List Tok)(k:Nat)(o:Int)(u:Tok)(h:List Res)(hk:Tks m h a c ts)(hkl:k<=ts.length) :
 CX prog 367 [.pointer (some ⟨b,0,none⟩),O4 u] (K4 b a c ts k o::h) m (λ_ _ h'=>D9 (ts.drop k)=u/\h'=K4 b a c ts (k+1:Nat) o::h) (λv h'=>D9 (ts.drop k)≠u/\v=c2D 100/\h'=K4 b a c ts k o::h):=by
 have hle:=hk.le;refine xB [0,3,7] func367 λ_=>?_;refine xX λb3=>?_
 refine Z0 ?_;refine dS [1] (.op 0 (.op 2 (.op 1 .nil))) [3] C4 ?_;refine kA2 ?_;refine yf rfl (E1 Et) (λfr=>U2 hg b a c ts k o _ (List.mem_append_right fr Me) (Tks.mono hk (a3l Sb fr))) ?_;refine SR.nil rfl rfl ?_;refine xG (b3c M4 (by kernel_rfl) (by kernel_rfl) Et Et rfl) ?_;refine Z0 ?_;refine wc ?_ ?_<;>intro c7
 have d7:Go.Ty.eqK (D9 (ts.drop k)) u=false:=by have c7':(!Go.Ty.eqK (D9 (ts.drop k)) u)=true:=c7;simpa using c7'
 refine kA1 ?_;refine xG (a0h b1z Et) ?_;refine WL.panic Et (a2R (P:=prog) (fn:=Tryz.f367) (K4 b a c ts k o::h) Vl Sb ?_);exact⟨a0V d7,rfl,rfl⟩;have d7:Go.Ty.eqK (D9 (ts.drop k)) u=true:=by have c7':(!Go.Ty.eqK (D9 (ts.drop k)) u)=false:=c7;simpa using c7'
 refine ZZ [0,8] ?_;refine WL.nil (toX (.inr rfl) (b2V (h':=K4 b a c ts (k+1:Nat) o::h) (.inr rfl) rfl  Vl Sb ?_));exact⟨a0U d7,rfl⟩
theorem c2J(t:Tok)(n o:Nat):opF t (n+1) o=if t=G2 o then o else opF t n (o+1):=rfl
theorem c9Y{m:View}(hg:Glob m)(b:Nat)(a:Option Addr)(c:Nat)(ts:List Tok)(k:Nat)(o:Int)(p z:Nat)(hp:p<=z/\z<=100)(h0:p≠0)(h:List Res)(hk:Tks m h a c ts)(hkl:k<=ts.length) :
 CT prog 356 [.pointer (some ⟨b,0,none⟩),.int .u8 p,.int .u8 z] (K4 b a c ts k o::h) m
  (λv _ h'=>v=.int .u8 (opF (D9 (ts.drop k)) (z+1-p) p)/\h'=K4 b a c ts (if opF (D9 (ts.drop k)) (z+1-p) p=0 then k else k+1:Nat) o::h):=by
 have hle:=hk.le;obtain⟨t,ht⟩:∃t,t=D9 (ts.drop k):=⟨_,rfl⟩;refine cB [0,1,2,6,7,8,14,20] func356 λ_=>?_;refine ZZ [1,1] ?_;refine xf (E1 Et) (U2 hg b a c ts k o _ Me (hk.mono Sb)) ?_;refine xW λb7=>?_
 refine kA1 ?_;rw[<-ht];refine ZZ [0,2,0] ?_;refine B1 [0,2,7] rfl (λμ F' h'=>∃j:Nat,((p<=j/\j<=z+1)/\opF t (z+1-p) p=opF t (z+1-j) j)/\z+1-j=μ/\F'=[(8,.int .u8 j)]/\.pt b7 (.cells (A3 t).toArray 97 (0,0))::K4 b a c ts k o::h=h') (z+1-p) [(8,.int .u8 p)] (h0:=.pt b7 (.cells (A3 t).toArray 97 (0,0))::K4 b a c ts k o::h) ?_ Sb ⟨p,⟨⟨by omega,by omega⟩,rfl⟩,rfl,rfl,rfl⟩ ?_;exact Su;rintro _ _ _ ⟨j,⟨hj,hJ⟩,rfl,rfl,rfl⟩;refine B2 rfl ?_;refine Z3 ?_;refine wD ?_ ?_<;>intro c14
 obtain⟨n,hn⟩:∃n,z+1-j=n+1:=⟨z-j,by omega⟩;have hn2:z+1-(j+1)=n:=by omega
 rw[hn,c2J]at hJ;refine Z0 ?_;refine dS [2] (.op 0 (.op 1 (.op 2 .nil))) [3] C4 ?_;refine kA2 ?_;refine yf rfl (E1 Et) (λfr=>a5b hg j (by omega) _) ?_;refine SR.nil rfl rfl ?_;refine xG (a1i M4 (by kernel_rfl) (by kernel_rfl) Et Et rfl) ?_;refine Z0 ?_;refine wc ?_ ?_<;>intro c20
 have d20:t=G2 j:=a0U c20;rw[if_pos d20]at hJ;refine ZZ [8,2,0] ?_;refine wT (K4 b a c ts (k+1:Nat) o::h) ?_
 (try rw[<-ht]);rw[hJ,if_neg (by omega)];exact⟨rfl,rfl⟩
 have d20:t≠G2 j:=a0V c20;rw[if_neg d20]at hJ;refine ZZ [0,2] ?_;refine WL.val (v':=.int .u8 (j+1:Nat)) (congrArg (Value.int .u8) (by unfold IntKind.wrap;simp[IntKind.bits,IntKind.signed];omega)) ?_;refine kA1 ?_;refine WL.nil (A6 (z+1-(j+1)) [(8,.int .u8 (j+1))] (h'':=.pt b7 (.cells (A3 t).toArray 97 (0,0))::K4 b a c ts k o::h) (by omega) ?_ Su Sb ⟨j+1,⟨⟨by omega,by omega⟩,by rw[hn2];exact hJ⟩,rfl,rfl,rfl⟩);exact Su;rw[show z+1-j=0 by omega]at hJ;replace hJ:opF t (z+1-p) p=0:=hJ;refine ZZ [0,1,0] ?_;refine wT (K4 b a c ts k o::h) ?_
 (try rw[<-ht]);rw[hJ,if_pos rfl];exact⟨rfl,rfl⟩
end
section
open Go.Eng Go.Xp Go
open Go.Ty (Tok A3 B8 O4)
open Go.Lx (J7)
abbrev d09(m:View)(b:Nat)(a:Option Addr)(c:Nat)(ts:List Tok)(o:Int)(res:a1A)(v:Value)(hp:List Res):Prop:=
 ∃(x:Ex)(k':Nat)(t:Ex)(bl:List Res),(res=.ok (x,ts.drop k')/\k'<=ts.length)/\v=exV t/\(C6 t=x/\TOk m bl t/\Wf t)/\hp=K4 b a c ts k' o::bl
abbrev d0v(b:Nat)(a:Option Addr)(c:Nat)(ts:List Tok)(res:a1A)(v:Value)(h h':List Res):Prop:=
 ∃(e k o:Int),res=.error e/\v=c2D e/\h'=K4 b a c ts k o::h
abbrev PCX(m:View)(f:FuncId)(args:List Value)(b:Nat)(a:Option Addr)(c:Nat)(ts:List Tok)(k:Nat)(o:Int)(res:a1A)(h:List Res):Prop:=
 CX prog f args (K4 b a c ts k o::h) m (λv _ h'=>∃hp,h'=hp++h/\d09 m b a c ts o res v hp) (λv h'=>d0v b a c ts res v h h')
theorem a0E(ts:List Tok)(k:Nat):(ts.drop k).tail=ts.drop (k+1):=by rw[List.tail_drop]
theorem a2N(m:View)(bl:List Res)(k o t n:Int)(s:B):TOk m bl (.mk k o t n s none 0 []):=.mk (Rd.nilF exE 6 m bl) (λ_ hx=>(List.not_mem_nil hx).elim)
theorem b3U{m:View}{bl:List Res}{x:Ex}(q:TOk m bl x)(b:Nat)(k o t n:Int)(s:B):TOk m (.pt b (.cells (exE x).toArray 28 (0,0))::bl) (.mk k o t n s (some ⟨b,0,none⟩) 1 [x]):=
 .mk (Rd.ofPt rfl (by show 1<=_;decide) (List.Mem.head _)) (λy hy=>by rw[List.mem_singleton]at hy;subst hy;exact q.mono (List.sublist_cons_self _ _))
theorem c6s{m:View}{bl bl2:List Res}{x y:Ex}(q:TOk m bl x)(r:TOk m bl2 y)(b:Nat)(k o t n:Int)(s:B):TOk m (.pt b (.cells (exE x++exE y).toArray 28 (0,0))::(bl2++bl)) (.mk k o t n s (some ⟨b,0,none⟩) 2 [x,y]):=
 .mk (Rd.ofPt rfl (by show 2<=_;decide) (List.Mem.head _)) (λz hz=>by
 rcases List.mem_cons.1 hz with rfl|hz
 ·exact q.mono ((List.sublist_append_right _ _).cons _)
 ·rw[List.mem_singleton]at hz
  subst hz;exact r.mono ((List.sublist_append_left _ _).cons _))
theorem b6A{x:Ex}(q:Wf x){k o t n:Int}{s:B}{a:Option Addr}{c:Nat}(hk:0<=k/\k<=255)(ho:0<=o/\o<=255)(ht:0<=t/\t<=255)(hn:-2147483648<=n/\n<=2147483647)(hs:s.length<=140737488355328):Wf (.mk k o t n s a c [x]):=
 .mk hk ho ht hn hs λy hy=>by rw[List.mem_singleton]at hy;subst hy;exact q
theorem c8t{x y:Ex}(q:Wf x)(r:Wf y){k o t n:Int}{s:B}{a:Option Addr}{c:Nat}(hk:0<=k/\k<=255)(ho:0<=o/\o<=255)(ht:0<=t/\t<=255)(hn:-2147483648<=n/\n<=2147483647)(hs:s.length<=140737488355328):Wf (.mk k o t n s a c [x,y]):=
 .mk hk ho ht hn hs λz hz=>by
  rcases List.mem_cons.1 hz with rfl|hz
  ·exact q
  ·rw[List.mem_singleton]at hz
   subst hz;exact r
theorem a4y{k o t n:Int}{s:B}(hk:0<=k/\k<=255)(ho:0<=o/\o<=255)(ht:0<=t/\t<=255)(hn:-2147483648<=n/\n<=2147483647)(hs:s.length<=140737488355328):Wf (.mk k o t n s none 0 []):=
 .mk hk ho ht hn hs λ_ hx=>(List.not_mem_nil hx).elim
section
variable {m:View}(hg:Glob m)(b:Nat)(a:Option Addr)(c:Nat)(ts:List Tok)
abbrev INS(m:View)(b:Nat)(a:Option Addr)(c:Nat)(ts:List Tok)(f:Nat):Prop:=∀(h:List Res)(k:Nat)(o s:B),Tks m h a c ts->k<=ts.length->PCX m 362 [.pointer (some ⟨b,0,none⟩),str o,str s] b a c ts k (32-f) (a04 f o s (ts.drop k)) h
abbrev OPN(m:View)(b:Nat)(a:Option Addr)(c:Nat)(ts:List Tok)(f:Nat):Prop:=∀(h:List Res)(k:Nat),Tks m h a c ts->k<=ts.length->PCX m 355 [.pointer (some ⟨b,0,none⟩)] b a c ts k (32-f) (V1 (a04 f) (ts.drop k)) h
abbrev EXP(m:View)(b:Nat)(a:Option Addr)(c:Nat)(ts:List Tok)(f:Nat):Prop:=∀(h:List Res)(k:Nat),Tks m h a c ts->k<=ts.length->PCX m 333 [.pointer (some ⟨b,0,none⟩)] b a c ts k (32-f) (a2b (a04 f) (ts.drop k)) h
theorem c9X:INS m b a c ts 0:=by
 intro h k o s hk hkl;refine xB [0,1,2,6,12] func362 λ_=>?_;refine xW λb6=>?_
 refine ZZ [0,5,0] ?_;refine wc ?_ ?_<;>intro c12
 replace c12:=b6O c12;refine kA1 ?_;refine xG (a0h b1z Et) ?_;refine WL.panic Et (a2R (P:=prog) (fn:=Tryz.f362) (K4 b a c ts k 32::h) Vl Sb ?_);exact⟨_,_,_,rfl,rfl,rfl⟩;cases c12
include hg
theorem d0s{f:Nat}(hf:f<32)(hE:EXP m b a c ts f):INS m b a c ts (f+1):=by
 intro h k o s hk hkl;have hq:a04 (f+1) o s (ts.drop k)=if D9 (ts.drop k)=B9 o then(match a2b (a04 f) (ts.drop (k+1))with
  | .error e=>.error e
  | .ok (x,r)=>if D9 r=B9 s then .ok (x,r.tail)else .error 100)else .error 100:=by rw[<-a0E];rfl
 refine xB [0,1,2,6,7,12] func362 λ_=>?_;refine xW λb6=>?_
 refine ZZ [0,5,0] ?_;refine wE ?_ ?_<;>intro c12
 omega;refine ZZ [0,5] ?_;refine WL.val (v':=.int .i64 (32-(f:Int))) (congrArg (Value.int .i64) (by omega)) ?_;refine ZZ [3,2] ?_;refine xf (E1 Et) (a0N _ _ _) ?_;refine pD (K4 b a c ts k (32-f)) ?_;refine A1 Ef (E2 Et Et) (b7K hg b a c ts k (32-f) (B9 o) _ (hk.mono Sb) hkl) Lb (λv hv hx=>?_) λv25 h25 hr25=>?_
 ·obtain⟨hx1,rfl,rfl⟩:=hx
  rw[if_neg hx1]at hq;exact a2R (P:=prog) (fn:=Tryz.f362) (K4 b a c ts k (32-f)::h) Vl Sb ⟨_,_,_,hq,rfl,rfl⟩
 obtain⟨hn25,rfl⟩:=hr25;refine Z0 ?_;have hkl2:k<ts.length:=W7 (by rw[hn25];exact(by decide:(5:Int)≠0));rw[if_pos hn25]at hq;refine kA1 ?_;refine A1 Ef (E1 Et) (hE _ (k+1) (hk.mono Sb) (by omega)) Lb (λv hv hx=>?_) λv27 h27 hr27=>?_
 ·obtain⟨e,k2,o2,hres,rfl,rfl⟩:=hx
  rw[hres]at hq;exact a2R (P:=prog) (fn:=Tryz.f362) (K4 b a c ts k2 o2::h) Vl Sb ⟨_,_,_,hq,rfl,rfl⟩
 obtain⟨hp27,rfl,x,k2,t,bl,⟨hres,hk2⟩,rfl,⟨hst,hT,hW⟩,rfl⟩:=hr27;refine WL.perm (h':=K4 b a c ts k2 (32-f)::.pt b6 _::(bl++h)) (List.Perm.cons _ List.perm_middle) ?_;rw[hres]at hq;refine xW λb7=>?_
 refine ZZ [1,2] ?_;refine xf (E1 Et) (a0N _ _ _) ?_;refine pD (K4 b a c ts k2 (32-f)) ?_;refine A1 Ef (E2 Et Et) (b7K hg b a c ts k2 (32-f) (B9 s) _ (hk.mono Sb) hk2) Lb (λv hv hx=>?_) λv31 h31 hr31=>?_
 ·obtain⟨hx1,rfl,rfl⟩:=hx
  replace hq:=hq.trans (if_neg hx1);exact a2R (P:=prog) (fn:=Tryz.f362) (K4 b a c ts k2 (32-f)::h) Vl Sb ⟨_,_,_,hq,rfl,rfl⟩
 obtain⟨hn31,rfl⟩:=hr31;refine Z0 ?_;have hkl3:k2<ts.length:=W7 (by rw[hn31];exact(by decide:(5:Int)≠0));replace hq:=hq.trans (if_pos hn31);rw[a0E]at hq;refine kA4 ?_;refine xG (Q4 Et Ek (by omega)) ?_;refine WL.val (v':=.int .i64 (32-((f+1:Nat):Int))) (congrArg (Value.int .i64) (by omega)) ?_;refine ZZ [3,2,0] ?_;refine xT (K4 b a c ts (k2+1:Nat) (32-((f+1:Nat):Int))::(bl++h)) (h1:=cA a2i) ?_;exact⟨K4 b a c ts (k2+1:Nat) (32-((f+1:Nat):Int))::bl,rfl,x,k2+1,t,bl,⟨hq,by omega⟩,rfl,⟨hst,hT,hW⟩,rfl⟩
theorem opn{f:Nat}(hI:INS m b a c ts f)(htn:∀k,(-2147483648<=(D9 (ts.drop k)).n/\(D9 (ts.drop k)).n<=2147483647)/\(D9 (ts.drop k)).text.length<=140737488355328):OPN m b a c ts f:=by
 intro h k hk hkl;obtain⟨t,ht⟩:∃t,t=D9 (ts.drop k):=⟨_,rfl⟩;have hq:V1 (a04 f) (ts.drop k)=if t.kind=3 then .ok (sx 1 0 0 t.n [] [],ts.drop (k+1))else if t.kind=4 then .ok (sx 2 0 0 t.n [] [],ts.drop (k+1))
  else if t=D7 [70,65,76,83,69]then .ok (sx 3 0 0 0 [] [],ts.drop (k+1))else if t=D7 [84,82,85,69]then .ok (sx 3 0 0 1 [] [],ts.drop (k+1))
  else if t.kind=1 then(if D9 (ts.drop (k+1))=B9 [91]then(match a04 f [91] [93] (ts.drop (k+1))with
   | .ok (x,r)=>.ok (sx 5 0 0 0 t.text [x],r)
   | .error e=>.error e)else .ok (sx 4 0 0 0 t.text [],ts.drop (k+1)))
  else if t=B9 [40]then a04 f [40] [41] (ts.drop k)else .error 100:=by rw[ht,<-a0E];rfl
 have hle:=hk.le;obtain⟨htn1,htx1⟩:=htn k;rw[<-ht]at htn1 htx1;refine xB [0,2,3,6,20,34,46,58,72,82] func355 λ_=>?_
 refine xW λb2=>?_;refine ZZ [0,1] ?_;refine xf (E1 Et) (U2 hg b a c ts k (32-f) _ Me (hk.mono Sb)) ?_;refine xW λb3=>?_
 refine kA1 ?_;rw[<-ht];refine ZZ [0,4,0] ?_;refine wE ?_ ?_<;>intro c6
 rw[if_pos c6]at hq;have hkl2:k<ts.length:=W7 (by rw[<-ht,c6];decide);refine ZZ [8,4,0] ?_;refine xT (K4 b a c ts (k+1:Nat) (32-f)::h) (h1:=cA a2i) ?_;exact⟨K4 b a c ts (k+1:Nat) (32-f)::[],rfl,_,k+1,.mk 1 0 0 t.n [] none 0 [],[],⟨hq,by omega⟩,rfl,⟨rfl,a2N _ _ _ _ _ _ _,a4y (by omega) (by omega) (by omega) htn1 (Nat.zero_le _)⟩,rfl⟩;rw[if_neg c6]at hq;refine Z4 ?_;refine wE ?_ ?_<;>intro c20
 rw[if_pos c20]at hq;have hkl2:k<ts.length:=W7 (by rw[<-ht,c20];decide);refine ZZ [8,4,0] ?_;refine xT (K4 b a c ts (k+1:Nat) (32-f)::h) (h1:=cA a2i) ?_;exact⟨K4 b a c ts (k+1:Nat) (32-f)::[],rfl,_,k+1,.mk 2 0 0 t.n [] none 0 [],[],⟨hq,by omega⟩,rfl,⟨rfl,a2N _ _ _ _ _ _ _,a4y (by omega) (by omega) (by omega) htn1 (Nat.zero_le _)⟩,rfl⟩;rw[if_neg c20]at hq;refine jE ?_;refine dS [1] (.op 0 (.op 1 .nil)) [2,3] C4 ?_;refine kA1 ?_;refine yf rfl (E1 Ek) (λfr=>a0c hg _ (by decide) _) ?_;refine SR.nil rfl rfl ?_;refine xG (a1i M4 (by kernel_rfl) (by kernel_rfl) Et Et rfl) ?_;refine Z1 ?_;refine wc ?_ ?_<;>intro c34
 have d34:=a0U c34;rw[if_pos d34]at hq;have hkl2:k<ts.length:=W7 (by rw[<-ht,d34];rcases a0d [70,65,76,83,69]with h|h<;>rw[h]<;>decide);refine ZZ [8,2,0] ?_;refine xT (K4 b a c ts (k+1:Nat) (32-f)::h) (h1:=cA a2i) ?_;exact⟨K4 b a c ts (k+1:Nat) (32-f)::[],rfl,_,k+1,.mk 3 0 0 0 [] none 0 [],[],⟨hq,by omega⟩,rfl,⟨rfl,a2N _ _ _ _ _ _ _,a4y (by omega) (by omega) (by omega) (by omega) (Nat.zero_le _)⟩,rfl⟩;have d34:=a0V c34;rw[if_neg d34]at hq;refine jE ?_;refine dS [1] (.op 0 (.op 1 .nil)) [2,3] C4 ?_;refine kA1 ?_;refine yf rfl (E1 Ek) (λfr=>a0c hg _ (by decide) _) ?_;refine SR.nil rfl rfl ?_;refine xG (a1i M4 (by kernel_rfl) (by kernel_rfl) Et Et rfl) ?_;refine Z1 ?_;refine wc ?_ ?_<;>intro c46
 have d46:=a0U c46;rw[if_pos d46]at hq;have hkl2:k<ts.length:=W7 (by rw[<-ht,d46];rcases a0d [84,82,85,69]with h|h<;>rw[h]<;>decide);refine ZZ [8,2,0] ?_;refine xT (K4 b a c ts (k+1:Nat) (32-f)::h) (h1:=cA a2i) ?_;exact⟨K4 b a c ts (k+1:Nat) (32-f)::[],rfl,_,k+1,.mk 3 0 0 1 [] none 0 [],[],⟨hq,by omega⟩,rfl,⟨rfl,a2N _ _ _ _ _ _ _,a4y (by omega) (by omega) (by omega) (by omega) (Nat.zero_le _)⟩,rfl⟩;have d46:=a0V c46;rw[if_neg d46]at hq;refine Z4 ?_;refine wE ?_ ?_<;>intro c58
 rw[if_pos c58]at hq;have hkl2:k<ts.length:=W7 (by rw[<-ht,c58];decide);refine ZZ [8,1] ?_;refine xf (E1 Et) (U2 hg b a c ts (k+1) (32-f) _ Me (hk.mono Sb)) ?_;refine xf (E1 Ek) (a0N _ _ _) ?_;refine xG (a1i M4 (by kernel_rfl) (by kernel_rfl) Et Et rfl) ?_;refine Z0 ?_;refine wc ?_ ?_<;>intro c72
 have d72:=a0U c72;rw[if_pos d72]at hq;refine jE ?_;refine WC.take (r:=K4 b a c ts (k+1:Nat) (32-f)) De ?_;refine F3 [3,4] (.op 0 (.op 1 (.op 2 (.op 3 (.op 4 .nil))))) [5,6] _ [_] C4 (λ_ _ _ _ _ h=>h) [] (by kernel_rfl) ?_;refine kA3 ?_;refine a1M rfl rfl Ef (E3 Et Ek Ek) (λfr=>hI _ (k+1) [91] [93] (Tks.mono hk (a3l Sb fr)) (by omega)) Lb (λfr v hv hx=>?_) λv76 h76 hr76=>?_
 ·obtain⟨e,k2,o2,hres,rfl,rfl⟩:=hx
  rw[hres]at hq;exact a2R (P:=prog) (fn:=Tryz.f355) (K4 b a c ts k2 o2::h) Vl (List.Sublist.cons_cons _ (a3l Sb fr)) ⟨_,_,_,hq,rfl,rfl⟩
 obtain⟨x,k2,tx,bl,⟨hres,hk2⟩,rfl,⟨hst,hT,hW⟩,rfl⟩:=hr76;rw[hres]at hq;refine sB rfl Q1 λb77=>?_
 refine a2v (H:=K4 b a c ts k2 (32-f)::.pt b77 (.cells (exE tx).toArray 28 (0,0))::.pt b3 (.cells (A3 t).toArray 97 (0,0))::.pt b2 (.cells (exE (.mk 0 0 0 0 [] none 0 [])).toArray 28 (0,0))::(bl++h)) rfl ((List.Perm.swap _ _ _).trans (((a08 bl [_,_] h).cons _).cons _)) ?_;refine Z2 ?_;refine xT (K4 b a c ts k2 (32-f)::.pt b77 (.cells (exE tx).toArray 28 (0,0))::(bl++h)) (h1:=cA a2i) ?_;exact⟨K4 b a c ts k2 (32-f)::.pt b77 (.cells (exE tx).toArray 28 (0,0))::bl,rfl,_,k2,.mk 5 0 0 0 t.text (some ⟨b77,0,none⟩) 1 [tx],.pt b77 (.cells (exE tx).toArray 28 (0,0))::bl,⟨hq,hk2⟩,rfl,⟨by rw[<-hst];rfl,b3U hT b77 _ _ _ _ _,b6A hW (by omega) (by omega) (by omega) (by omega) htx1⟩,rfl⟩;have d72:=a0V c72;rw[if_neg d72]at hq;refine ZZ [0,4,0] ?_;refine xT (K4 b a c ts (k+1:Nat) (32-f)::h) (h1:=cA a2i) ?_
 exact⟨K4 b a c ts (k+1:Nat) (32-f)::[],rfl,_,k+1,.mk 4 0 0 0 t.text none 0 [],[],⟨hq,by omega⟩,rfl,⟨rfl,a2N _ _ _ _ _ _ _,a4y (by omega) (by omega) (by omega) (by omega) htx1⟩,rfl⟩;rw[if_neg c58]at hq;refine jE ?_;refine dS [1] (.op 0 (.op 1 .nil)) [2,3] C4 ?_;refine kA1 ?_;refine yf rfl (E1 Ek) (λfr=>a0N _ _ _) ?_;refine SR.nil rfl rfl ?_;refine xG (a1i M4 (by kernel_rfl) (by kernel_rfl) Et Et rfl) ?_;refine Z1 ?_;refine wc ?_ ?_<;>intro c82
 have d82:=a0U c82;rw[if_pos d82]at hq;refine kA1 ?_;refine pD (K4 b a c ts k (32-f)) ?_;refine A1 Ef (E3 Et Ek Ek) (hI _ k [40] [41] (hk.mono Sb) hkl) Lb (λv hv hx=>?_) λv87 h87 hr87=>?_
 ·obtain⟨e,k2,o2,hres,rfl,rfl⟩:=hx
  rw[hres]at hq;exact a2R (P:=prog) (fn:=Tryz.f355) (K4 b a c ts k2 o2::h) Vl Sb ⟨_,_,_,hq,rfl,rfl⟩
 obtain⟨hp87,rfl,x,k2,tx,bl,⟨hres,hk2⟩,rfl,⟨hst,hT,hW⟩,rfl⟩:=hr87;refine WL.perm (h':=K4 b a c ts k2 (32-f)::.pt b3 _::.pt b2 _::(bl++h)) ((a08 bl [_,_] h).cons _) ?_;rw[hres]at hq;refine Z1 ?_;refine xT (K4 b a c ts k2 (32-f)::(bl++h)) (h1:=cA a2i) ?_;exact⟨K4 b a c ts k2 (32-f)::bl,rfl,x,k2,tx,bl,⟨hq,hk2⟩,rfl,⟨hst,hT,hW⟩,rfl⟩;have d82:=a0V c82;rw[if_neg d82]at hq;refine ZZ [0,1] ?_;refine xG (a0h b1z Et) ?_;refine WL.panic Et (a2R (P:=prog) (fn:=Tryz.f355) (K4 b a c ts k (32-f)::h) Vl Sb ?_);exact⟨_,_,_,hq,rfl,rfl⟩
end
end
section
open Go.Eng Go.Xp Go
open Go.Ty (Tok A3 B8 O4)
open Go.Lx (J7)
theorem c1A{m:View}(hg:Glob m)(b:Nat)(a:Option Addr)(c:Nat)(ts:List Tok)(k:Nat)(o:Int)(p z n:Nat)(t:Tok)(hn:z+1-p=n)(ht:t=D9 (ts.drop k))(hp:p<=z/\z<=100)(h0:p≠0)(h:List Res)(hk:Tks m h a c ts)(hkl:k<=ts.length) :
 CT prog 356 [.pointer (some ⟨b,0,none⟩),.int .u8 p,.int .u8 z] (K4 b a c ts k o::h) m
  (λv _ h'=>v=.int .u8 (opF t n p)/\h'=K4 b a c ts (if opF t n p=0 then k else k+1:Nat) o::h):=by
 subst hn ht;exact c9Y hg b a c ts k o p z hp h0 h hk hkl
theorem c2p{t:Tok}{i:Nat}(hi:i<3)(hn:∀j<i,t≠D7 (N0 ((j+1:Nat):Int)))(h:t=D7 (N0 ((i+1:Nat):Int))):a1r t=i+1:=by
 unfold a1r;match i,hi with
 |0,_=>exact if_pos h
 |1,_=>have n0:t≠D7 (N0 1):=hn 0 (by omega);rw[if_neg n0];exact if_pos h
 |2,_=>have n0:t≠D7 (N0 1):=hn 0 (by omega);have n1:t≠D7 (N0 2):=hn 1 (by omega);rw[if_neg n0,if_neg n1];exact if_pos h
theorem c3x{t:Tok}(hn:∀j<3,t≠D7 (N0 ((j+1:Nat):Int))):a1r t=0:=by have n0:t≠D7 (N0 1):=hn 0 (by omega);have n1:t≠D7 (N0 2):=hn 1 (by omega);unfold a1r;rw[if_neg n0,if_neg n1];exact if_neg (hn 2 (by omega))
section
variable {m:View}(hg:Glob m)(b:Nat)(a:Option Addr)(c:Nat)(ts:List Tok)
include hg
theorem exp{f:Nat}(hO:OPN m b a c ts f)(htn:∀k,(D9 (ts.drop k)).text.length<=140737488355328):EXP m b a c ts f:=by
 intro h k hk hkl;obtain⟨t,ht⟩:∃t,t=D9 (ts.drop k):=⟨_,rfl⟩;have hq:a2b (a04 f) (ts.drop k)=if t=D7 [83,73,90,69]then(if(D9 (ts.drop (k+1))).kind=1 then .ok (sx 9 0 0 0 (D9 (ts.drop (k+1))).text [],ts.drop (k+1+1))else .error 100)
  else if a1r t≠0 then unQ (λx=>sx 8 0 (a1r t) 0 [] [x]) (V1 (a04 f) (ts.drop (k+1)))
  else if opF t 4 23≠0 then unQ (λx=>sx 6 (opF t 4 23) 0 0 [] [x]) (V1 (a04 f) (ts.drop (k+1)))
  else match V1 (a04 f) (ts.drop k)with
   | .error e=>.error e
   | .ok (a,r)=>if opF (D9 r) 22 1≠0 then unQ (λb=>sx 7 (opF (D9 r) 22 1) 0 0 [] [a,b]) (V1 (a04 f) r.tail)else .ok (a,r):=by
  rw[ht,<-a0E,<-a0E,<-a0E];rfl
 have hle:=hk.le;refine xB [0,2,3,5,6,7,8,13,25,38,39,40,46,63,74] func333 λ_=>?_;refine xW λb2=>?_
 refine ZZ [0,1] ?_;refine xf (E1 Et) (U2 hg b a c ts k (32-f) _ Me (hk.mono Sb)) ?_;refine xW λb3=>?_;refine kA1 ?_;rw[<-ht];refine Z0 ?_;refine dS [1] (.op 0 (.op 1 .nil)) [2] C4 ?_;refine kA1 ?_;refine yf rfl (E1 Ek) (λfr=>a0c hg _ (by decide) _) ?_;refine SR.nil rfl rfl ?_;refine xG (a1i M4 (by kernel_rfl) (by kernel_rfl) Et Et rfl) ?_;refine Z0 ?_;refine wc ?_ ?_<;>intro c13
 have d13:=a0U c13;rw[if_pos d13]at hq;have hkl2:k<ts.length:=W7 (by rw[<-ht,d13];rcases a0d [83,73,90,69]with h|h<;>rw[h]<;>decide);refine ZZ [8,1] ?_;refine xf (E1 Et) (U2 hg b a c ts (k+1) (32-f) _ Me (hk.mono Sb)) ?_;refine ZZ [1,3,0] ?_;refine wN ?_ ?_<;>intro c25
 rw[if_neg c25]at hq;refine kA1 ?_;refine xG (a0h b1z Et) ?_;refine WL.panic Et (a2R (P:=prog) (fn:=Tryz.f333) (K4 b a c ts (k+1:Nat) (32-f)::h) Vl Sb ?_);exact⟨_,_,_,hq,rfl,rfl⟩;rw[if_pos c25]at hq;have hkl3:k+1<ts.length:=W7 (by rw[c25];decide);refine ZZ [0,8,4,0] ?_;refine xT (K4 b a c ts (k+1+1:Nat) (32-f)::h) (h1:=cA a2i) ?_;exact⟨K4 b a c ts (k+1+1:Nat) (32-f)::[],rfl,_,k+1+1,.mk 9 0 0 0 (D9 (ts.drop (k+1))).text none 0 [],[],⟨hq,by omega⟩,rfl,⟨rfl,a2N _ _ _ _ _ _ _,a4y (by omega) (by omega) (by omega) (by omega) (htn (k+1))⟩,rfl⟩;have d13:=a0V c13;rw[if_neg d13]at hq;refine Z0 ?_;refine xG (a5A c2W rfl rfl rfl Eb (by exact rfl)) ?_;refine Z1 ?_
 refine B1 [0,2,3,38] rfl (λμ F' h'=>∃i:Nat,(i<=3/\∀j<i,t≠D7 (N0 ((j+1:Nat):Int)))/\3-i=μ/\F'=[(39,.int .i64 i)]/\.pt b3 (.cells (A3 t).toArray 97 (0,0))::.pt b2 (.cells (exE (.mk 0 0 0 0 [] none 0 [])).toArray 28 (0,0))::K4 b a c ts k (32-f)::h=h') (3-0) [(39,.int .i64 0)] (h0:=.pt b3 (.cells (A3 t).toArray 97 (0,0))::.pt b2 (.cells (exE (.mk 0 0 0 0 [] none 0 [])).toArray 28 (0,0))::K4 b a c ts k (32-f)::h) ?_ Sb ⟨0,⟨by omega,λj hj=>absurd hj (Nat.not_lt_zero j)⟩,rfl,rfl,rfl⟩ ?_;exact Su;rintro _ _ _ ⟨i,⟨hi,hJ⟩,rfl,rfl,rfl⟩;refine B2 rfl ?_;refine Z1 ?_;refine wD ?_ ?_<;>intro c40
 have hvi:([.int .u8 1,.int .u8 2,.int .u8 3]:List Value)[i]?=some (.int .u8 ((i+1:Nat):Int)):=by rcases(by omega:i=0\/i=1\/i=2)with rfl|rfl|rfl<;>rfl
 have hpl:=b4W ((i+1:Nat):Int);refine Z0 ?_;refine xG (b7q c2W b6V rfl rfl Et Et rfl (by omega) hvi) ?_;refine Z1 ?_;refine dS [2,3] (.op 0 (.op 1 (.op 2 (.op 3 .nil)))) [4] C4 ?_;refine kA2 ?_;refine yf rfl (E1 Et) (λfr=>prim_ct _ _ _) ?_;refine yf rfl (E1 Et) (λfr=>a0c hg (N0 ((i+1:Nat):Int)) (by omega) _) ?_;refine SR.nil rfl rfl ?_;refine xG (a1i M4 (by kernel_rfl) (by kernel_rfl) Et Et rfl) ?_;refine Z0 ?_;refine wc ?_ ?_<;>intro c46
 have d46:=a0U c46;have hc3:=c2p (by omega) hJ d46;rw[hc3,if_pos (by omega)]at hq;have hkl2:k<ts.length:=W7 (by rw[<-ht,d46];rcases a0d (N0 ((i+1:Nat):Int))with h|h<;>rw[h]<;>decide);refine ZZ [8,2] ?_;refine pD (K4 b a c ts (k+1:Nat) (32-f)) ?_;refine A1 Ef (E1 Et) (hO _ (k+1) (hk.mono Sb) (by omega)) Lb (λv hv hx=>?_) λv56 h56 hr56=>?_
 ·obtain⟨e,k2,o2,hres,rfl,rfl⟩:=hx
  rw[hres]at hq;exact a2R (P:=prog) (fn:=Tryz.f333) (K4 b a c ts k2 o2::h) Vl Sb ⟨_,_,_,hq,rfl,rfl⟩
 obtain⟨hp56,rfl,x,k2,tx,bl,⟨hres,hk2⟩,rfl,⟨hst,hT,hW⟩,rfl⟩:=hr56;refine WL.perm (h':=K4 b a c ts k2 (32-f)::.pt b3 _::.pt b2 _::(bl++h)) ((a08 bl [_,_] h).cons _) ?_;rw[hres]at hq;refine xY Q1 Eb λb57=>?_
 refine kA2 ?_;refine pD (K4 b a c ts k2 (32-f)) ?_;refine Z0 ?_;refine xT (K4 b a c ts k2 (32-f)::.pt b57 (.cells (exE tx).toArray 28 (0,0))::(bl++h)) (h1:=cA a2i) ?_;exact⟨K4 b a c ts k2 (32-f)::.pt b57 (.cells (exE tx).toArray 28 (0,0))::bl,rfl,_,k2,.mk 8 0 ((i+1:Nat):Int) 0 [] (some ⟨b57,0,none⟩) 1 [tx],.pt b57 (.cells (exE tx).toArray 28 (0,0))::bl,⟨hq,hk2⟩,rfl,⟨by rw[<-hst];rfl,b3U hT b57 _ _ _ _ _,b6A hW (by omega) (by omega) (by omega) (by omega) (Nat.zero_le _)⟩,rfl⟩;have d46:=a0V c46;have hJ2:∀j<i+1,t≠D7 (N0 ((j+1:Nat):Int)):=λj hj=>by
  rcases Nat.lt_succ_iff_lt_or_eq.1 hj with h|rfl
  ·exact hJ j h
  ·exact d46
 refine ZZ [0,2] ?_;refine WL.nil (A6 (3-(i+1)) [(39,.int .i64 (i+1))] (h'':=.pt b3 (.cells (A3 t).toArray 97 (0,0))::.pt b2 (.cells (exE (.mk 0 0 0 0 [] none 0 [])).toArray 28 (0,0))::K4 b a c ts k (32-f)::h) (by omega) ?_ Su Sb ⟨i+1,⟨by omega,hJ2⟩,rfl,rfl,rfl⟩);exact Su;have hc3:=c3x (t:=t) (λj hj=>hJ j (by omega));rw[hc3,if_neg (by omega)]at hq;refine ZZ [0,1] ?_;refine pD (K4 b a c ts k (32-f)) ?_;refine xg (E3 Et Ek Ek) (c1A hg b a c ts k (32-f) 23 26 4 t rfl ht (by decide) (by decide) _ (hk.mono Sb) hkl) ?_;rintro _ _ ⟨rfl,rfl⟩;refine ZZ [1,2,0] ?_;refine wN ?_ ?_<;>intro c63
 have d63:opF t 4 23≠0:=by omega
 rw[if_pos d63]at hq;rw[if_neg d63];have hkl2:k<ts.length:=W7 (by rw[<-ht];exact a9A d63);have hob:=b7x t 4 23 d63;refine kA2 ?_;refine A1 Ef (E1 Et) (hO _ (k+1) (hk.mono Sb) (by omega)) Lb (λv hv hx=>?_) λv66 h66 hr66=>?_
 ·obtain⟨e,k2,o2,hres,rfl,rfl⟩:=hx
  rw[hres]at hq;exact a2R (P:=prog) (fn:=Tryz.f333) (K4 b a c ts k2 o2::h) Vl Sb ⟨_,_,_,hq,rfl,rfl⟩
 obtain⟨hp66,rfl,x,k2,tx,bl,⟨hres,hk2⟩,rfl,⟨hst,hT,hW⟩,rfl⟩:=hr66;refine WL.perm (h':=K4 b a c ts k2 (32-f)::.pt b3 _::.pt b2 _::(bl++h)) ((a08 bl [_,_] h).cons _) ?_;rw[hres]at hq;refine xY Q1 Eb λb67=>?_
 refine kA2 ?_;refine pD (K4 b a c ts k2 (32-f)) ?_;refine Z0 ?_;refine xT (K4 b a c ts k2 (32-f)::.pt b67 (.cells (exE tx).toArray 28 (0,0))::(bl++h)) (h1:=cA a2i) ?_;exact⟨K4 b a c ts k2 (32-f)::.pt b67 (.cells (exE tx).toArray 28 (0,0))::bl,rfl,_,k2,.mk 6 (opF t 4 23) 0 0 [] (some ⟨b67,0,none⟩) 1 [tx],.pt b67 (.cells (exE tx).toArray 28 (0,0))::bl,⟨hq,hk2⟩,rfl,⟨by rw[<-hst];rfl,b3U hT b67 _ _ _ _ _,b6A hW (by omega) (by omega) (by omega) (by omega) (Nat.zero_le _)⟩,rfl⟩;have d63:opF t 4 23=0:=by omega
 rw[if_neg (by omega)]at hq;rw[if_pos d63];refine ZZ [0,1] ?_;refine A1 Ef (E1 Et) (hO _ k (hk.mono Sb) hkl) Lb (λv hv hx=>?_) λv70 h70 hr70=>?_
 ·obtain⟨e,k2,o2,hres,rfl,rfl⟩:=hx
  rw[hres]at hq;exact a2R (P:=prog) (fn:=Tryz.f333) (K4 b a c ts k2 o2::h) Vl Sb ⟨_,_,_,hq,rfl,rfl⟩
 obtain⟨hp70,rfl,x,k2,tx,bl,⟨hres,hk2⟩,rfl,⟨hst,hT,hW⟩,rfl⟩:=hr70;refine WL.perm (h':=K4 b a c ts k2 (32-f)::.pt b3 _::.pt b2 _::(bl++h)) ((a08 bl [_,_] h).cons _) ?_;rw[hres]at hq;refine xW λb7=>?_
 refine ZZ [1,1] ?_;refine pD (K4 b a c ts k2 (32-f)) ?_;obtain⟨t2,ht2⟩:∃t2,t2=D9 (ts.drop k2):=⟨_,rfl⟩;replace hq:=hq.trans (show _=if opF (D9 (ts.drop k2)) 22 1≠0 then unQ (λb=>sx 7 (opF (D9 (ts.drop k2)) 22 1) 0 0 [] [x,b]) (V1 (a04 f) (ts.drop k2).tail)else .ok (x,ts.drop k2) from rfl);rw[<-ht2,a0E]at hq;refine xg (E3 Et Ek Ek) (c1A hg b a c ts k2 (32-f) 1 22 22 t2 rfl ht2 (by decide) (by decide) _ (hk.mono Sb) hk2) ?_;rintro _ _ ⟨rfl,rfl⟩;refine ZZ [1,2,0] ?_;refine wN ?_ ?_<;>intro c74
 have d74:opF t2 22 1≠0:=by omega
 rw[if_pos d74]at hq;rw[if_neg d74];have hkl4:k2<ts.length:=W7 (by rw[<-ht2];exact a9A d74);have hob:=b7x t2 22 1 d74;refine jE ?_;refine F3 [3] (.op 0 (.op 1 (.op 2 (.op 3 .nil)))) [4,5,6] _ [_] C4 (λ_ _ _ _ _ h=>h) [0] (by kernel_rfl) ?_;refine kA3 ?_;refine a1M rfl rfl Ef (E1 Et) (λfr=>hO _ (k2+1) (Tks.mono hk (a3l Sb fr)) (by omega)) Lb (λfr v hv hx=>?_) λv78 h78 hr78=>?_
 ·obtain⟨e,k3,o2,hres2,rfl,rfl⟩:=hx
  rw[hres2]at hq;exact a2R (P:=prog) (fn:=Tryz.f333) (K4 b a c ts k3 o2::h) Vl (List.Sublist.cons_cons _ (a3l Sb fr)) ⟨_,_,_,hq,rfl,rfl⟩
 obtain⟨y,k3,ty,bl2,⟨hres2,hk3⟩,rfl,⟨hst2,hT2,hW2⟩,rfl⟩:=hr78;rw[hres2]at hq;refine a2v (H:=K4 b a c ts k3 (32-f)::.pt b7 (.cells (exE tx).toArray 28 (0,0))::.pt b3 (.cells (A3 t).toArray 97 (0,0))::.pt b2 (.cells (exE (.mk 0 0 0 0 [] none 0 [])).toArray 28 (0,0))::((bl2++bl)++h)) rfl (by rw[List.append_assoc];exact(a08 bl2 [_,_,_] (bl++h)).cons _) ?_;refine xY Q1 Eb λb79=>?_
 refine kA2 ?_;refine pD (K4 b a c ts k3 (32-f)) ?_;refine Z0 ?_;refine xT (K4 b a c ts k3 (32-f)::.pt b79 (.cells (exE tx++exE ty).toArray 28 (0,0))::((bl2++bl)++h)) (h1:=cA a2i) ?_;exact⟨K4 b a c ts k3 (32-f)::.pt b79 (.cells (exE tx++exE ty).toArray 28 (0,0))::(bl2++bl),rfl,_,k3,.mk 7 (opF t2 22 1) 0 0 [] (some ⟨b79,0,none⟩) 2 [tx,ty],.pt b79 (.cells (exE tx++exE ty).toArray 28 (0,0))::(bl2++bl),⟨hq,hk3⟩,rfl,⟨by rw[<-hst,<-hst2];rfl,c6s hT hT2 b79 _ _ _ _ _,c8t hW hW2 (by omega) (by omega) (by omega) (by omega) (Nat.zero_le _)⟩,rfl⟩;have d74:opF t2 22 1=0:=by omega
 rw[if_neg (by omega)]at hq;rw[if_pos d74];refine ZZ [0,2,0] ?_;refine xT (K4 b a c ts k2 (32-f)::(bl++h)) (h1:=cA a2i) ?_;exact⟨K4 b a c ts k2 (32-f)::bl,rfl,x,k2,tx,bl,⟨hq,hk2⟩,rfl,⟨hst,hT,hW⟩,rfl⟩
end
theorem c2m{m:View}(hg:Glob m)(b:Nat)(a:Option Addr)(c:Nat)(ts:List Tok)(htn:∀k,(-2147483648<=(D9 (ts.drop k)).n/\(D9 (ts.drop k)).n<=2147483647)/\(D9 (ts.drop k)).text.length<=140737488355328) :
 ∀f,f<=32->INS m b a c ts f/\EXP m b a c ts f
 |0,_=>⟨c9X b a c ts,exp hg b a c ts (opn hg b a c ts (c9X b a c ts) htn) λk=>(htn k).2⟩
 |f+1,hf=>by
  have ih:=c2m hg b a c ts htn f (by omega);have hI:=d0s hg b a c ts (by omega) ih.2;exact⟨hI,exp hg b a c ts (opn hg b a c ts hI htn) λk=>(htn k).2⟩
end
section
open Go.Eng Go.Xp Go
open Go.Ty (Tok A3 B8 O4)
open Go.Lx (J7)
abbrev ptV(b:Nat):Value:=.pointer (some ⟨b,0,none⟩)
theorem b7G(b0 b1 b2:Nat)(h:List Res)(m:View):b0Z prog 332 [ptV b0,ptV b1,ptV b2] .returning m h h:=by
 refine a8M func332 rfl rfl ntmps332 Lb rfl Lb Lb (b5a rfl) rfl ?_;refine kA1 ?_;refine xG (b02 c3w Et rfl) ?_;refine kQ0 [0,1,2,3,8] ?_;refine wc ?_ ?_<;>intro c8
 cases c8;refine WC.skip (a8O (h2:=h) (.inr rfl) rfl Sb)
abbrev r3(b0 b1 b2:Nat)(e:Ex)(k n:Int)(h:List Res):List Res:=.pt b0 (.cells (exE e).toArray 28 (0,0))::.pt b1 (.cells [Value.int .i64 k].toArray 3 (0,0))::.pt b2 (.cells [Value.int .i64 n].toArray 47 (0,0))::h
theorem c4L(b0 b1 b2:Nat)(h:List Res)(m:View)(x:Ex)(k n e:Int):b0Z prog 332 [ptV b0,ptV b1,ptV b2] (.panicking [{ v:=c2D e,recovered:=false }]) m (r3 b0 b1 b2 x k n h) (r3 b0 b1 b2 A2 0 e h):=by
 refine a8M func332 rfl rfl ntmps332 Lb rfl Lb Lb b5O (b0z _) ?_;refine kA1 ?_;refine xG (b0Q c3w Et rfl) ?_;refine kQ0 [0,1,2,3,8] ?_;refine wc ?_ ?_<;>intro c8
 refine kA1 ?_;refine xG (a4N b1z Et) ?_;refine kA3 ?_;refine xW λb4=>?_;refine kQ2 [0,1,2,3,4,5] ?_;refine kQ2 [0,1,2,3,4,15] ?_;refine wc ?_ ?_<;>intro c15
 cases c15;refine WC.skip (kp [0,1,2,4] ?_);refine jE ?_;refine WC.take (r:=.pt b1 _) De ?_;refine WC.take (r:=.pt b0 _) De ?_;refine F3 [3,4] (.op 0 (.op 1 (.op 2 (.op 3 (.op 4 .nil))))) [5] _ [_,_] C4 (λ_ _ _ _ _ h=>absurd h.1 (by rintro(q|q)<;>cases q)) [] (by kernel_rfl) ?_;refine yG rfl (PO.build a2i rfl rfl rfl EvP.nil rfl) ?_;refine kA2 ?_;refine SR.store rfl rfl rfl Et Et rfl rfl rfl rfl Up ?_;refine SR.store rfl rfl rfl Et Ek rfl rfl rfl rfl Up ?_;refine SR.nil rfl rfl ?_;refine kA1 ?_;refine WL.nil (a8O (h2:=r3 b0 b1 b2 A2 0 e h) (.inr rfl) rfl Sb);cases c8
theorem _root_.Go.Eng.WC.noPan{P:Program}{c:Code}{Q:Exit->Act->World->Prop}{n:Cx}{F:Fm}{h:List Res}{m:View}(k:WC P c (noPan Q) n F h m):WC P c Q n F h m:=
 .mk λa w ha hs=>wpIn_mono (k.e a w ha hs) λe _ _ q=>by cases e<;>first|exact q|exact(q:False).elim
theorem a9P{ts:List Tok}{x:Ex}{k:Nat}(h:a2b (a04 32) ts=.ok (x,ts.drop k))(hk:k<=ts.length):U9 ts=if F8 x then .ok (x,k)else .error 3:=by have h2:b2f ts=.ok (x,ts.drop k):=h;unfold U9;rw[h2];show(if F8 x then Except.ok (x,ts.length-(ts.drop k).length)else .error 3)=_;rw[List.length_drop,show ts.length-(ts.length-k)=k by omega]
theorem front_ct{m:View}(hg:Glob m)(a:Option Addr)(c:Nat)(ts:List Tok)(h:List Res)(hk:Tks m h a c ts)(htn:∀k,(-2147483648<=(D9 (ts.drop k)).n/\(D9 (ts.drop k)).n<=2147483647)/\(D9 (ts.drop k)).text.length<=140737488355328) :
 CT prog 268 [.slice a ts.length c] h m (λv _ h'=>(∃(x:Ex)(k:Nat)(t:Ex)(bl:List Res),(U9 ts=.ok (x,k)/\k<=ts.length)/\v=.tuple #[exV t,.int .i64 k,.int .i64 0]/\(C6 t=x/\TOk m bl t/\Wf t)/\h'=bl++h) \/
  (∃e:Int,U9 ts=.error e/\v=.tuple #[exV A2,.int .i64 0,.int .i64 e]/\h'=h)):=by
 have hE:=(c2m hg · a c ts htn 32 (by omega));refine CT.bodyD call268 func268 rfl ntmps268 Lb rfl ?_;refine j0 ?_;refine xW λb2=>?_;refine xW λb3=>?_
 refine xW λb4=>?_;refine wn [0,2,3,4] ?_;refine jE ?_;refine a9v rfl λops hG=>?_
 refine WY.po rfl (PO.makeFunc Evs.nil (E3 Et Et Et)) Lb ?_;refine WY.defer rfl Et ?_;refine kp [0,2,3,4] ?_;refine kA2 ?_;refine xX λb9=>?_;refine kQ1 [2,3,4,5] ?_;refine kA1 ?_;refine A1 Ef (E1 Et) ((hE b9).2 _ 0 (hk.mono Sb) (by omega)) Lb (λv hv hx=>?_) λv11 h11 hr11=>?_
 ·obtain⟨e,k2,o2,hres,rfl,rfl⟩:=hx
  intro a1 w1 ha1 hs1;have hs2:St m (r3 b2 b3 b4 A2 0 0 h) w1:=(hs1.sub (List.sublist_cons_self _ _)).perm ((List.perm_middle (l₁:=[_,_])).trans ((List.Perm.swap _ _ _).cons _));have hfe:U9 ts=.error e:=by have h2:b2f ts=.error e:=hres;unfold U9;rw[h2]
  exact c8N (P:=prog) (fn:=Tryz.f268) (h':=h) rfl call332 (c4L b2 b3 b4 h m A2 0 0 e) rfl (G4 a2i rfl rfl rfl Me rfl) (a0z uu3 rfl rfl Me rfl) (a0z c00 rfl rfl Me rfl) Vl Sb (.inr ⟨e,hfe,rfl,rfl⟩) a1 w1 ha1 hs2
 obtain⟨hp11,rfl,x,k2,tx,bl,⟨hres,hk2⟩,rfl,⟨hst,hT,hW⟩,rfl⟩:=hr11;refine WL.perm (h':=K4 b9 a c ts k2 (32-(32:Nat))::.pt b4 _::.pt b3 _::.pt b2 _::(bl++h)) ((a08 bl [_,_,_] h).cons _) ?_;have hfr:=a9P hres hk2;refine kQ1 [2,3,4,5] ?_;refine kA1 ?_;refine xf (E1 Et) (may_ct hg tx _ (hT.mono ((List.sublist_append_left bl h).trans Sb)) hW) ?_;refine kQ1 [2,3,4,5,14] ?_;refine wc ?_ ?_<;>intro c14
 have d14:F8 x=false:=by rw[<-hst,U7];simpa using c14
 rw[d14]at hfr;refine kQ4 [2,3,4] ?_;refine WC.ret (c6D (h':=h) (.inl rfl) rfl call332 (b7G _ _ _ _ _) rfl (G4 a2i rfl rfl rfl Me rfl) (a0z uu3 rfl rfl Me rfl) (a0z c00 rfl rfl Me rfl) Vl Sb ?_);exact .inr ⟨3,hfr,rfl,rfl⟩;have d14:F8 x=true:=by rw[<-hst,U7];simpa using c14
 rw[d14]at hfr;refine WC.skip (kp [2,3,4,5] ?_);refine jE ?_;refine WC.noPan ?_;refine WC.take (r:=.pt b2 _) De ?_;refine F3 [0,5] (.op 1 (.op 2 (.op 3 (.op 4 (.op 0 (.op 5 .nil)))))) [6,7] _ [_] C4 (λ_ _ _ _ _ h=>h) [] (by kernel_rfl) ?_;refine kA4 ?_;refine b6x rfl rfl (λfr=>W6 a2i rfl rfl Et (List.mem_append_right _ Me) rfl) Lb ?_;refine SR.store rfl rfl rfl Et Et rfl rfl rfl rfl Up ?_;refine SR.nil rfl rfl ?_;refine kQ2 [2,3,4] ?_;refine WC.ret (c6D (h':=bl++h) (.inl rfl) rfl call332 (b7G _ _ _ _ _) rfl (G4 a2i rfl rfl rfl Me rfl) (a0z uu3 rfl rfl Me rfl) (a0z c00 rfl rfl Me rfl) Vl Sb ?_);exact .inl ⟨x,k2,tx,bl,⟨hfr,hk2⟩,rfl,⟨hst,hT,hW⟩,rfl⟩
theorem b2k{m:View}(hg:Glob m)(a:Option Addr)(c:Nat)(ts:List Tok)(h:List Res)(hk:Tks m h a c ts)(htn:∀t∈ts,-2147483648<=t.n/\t.n<=2147483647) :
 CT prog 268 [.slice a ts.length c] h m (λv _ h'=>∃(t:Ex)(bl:List Res),v=.tuple #[exV t,.int .i64 (a1f ts:Nat),.int .i64 (a6w ts)]/\(C6 t=a9U ts/\TOk m bl t/\Wf t)/\h'=bl++h):=by
 have hz:∀k,(-2147483648<=(D9 (ts.drop k)).n/\(D9 (ts.drop k)).n<=2147483647)/\(D9 (ts.drop k)).text.length<=140737488355328:=λk=>by
  cases hd:ts.drop k with
  |nil=>exact⟨by decide,by decide⟩
  |cons u r=>
   have hu:u∈ts:=List.mem_of_mem_drop (by rw[hd];exact List.Mem.head _);rw[a5V];split
   ·exact⟨htn u hu,hk.tx u hu⟩
   ·exact⟨by decide,by decide⟩
 have h1:=front_ct hg a c ts h hk hz;refine⟨h1.enter,λw hs=>Calls.mono (h1.calls w hs) ?_⟩;rintro e w' ⟨v,m',h',rfl,hle,hst,⟨x,k,t,bl,⟨hf,hk2⟩,rfl,hT,rfl⟩|⟨er,hf,rfl,rfl⟩⟩
 ·exact⟨_,m',_,rfl,hle,hst,t,bl,by unfold a1f a6w;rw[hf],by unfold a9U;rw[hf];exact hT,rfl⟩
 ·exact⟨_,m',_,rfl,hle,hst,A2,[],by unfold a1f a6w;rw[hf];rfl,by unfold a9U;rw[hf];exact⟨rfl,a2N _ _ _ _ _ _ _,a4y (by omega) (by omega) (by omega) (by omega) (Nat.zero_le _)⟩,rfl⟩
theorem b7T{m:View}{f:FuncId}{e:Ex}{h:List Res}(c:CT prog f [exV e] h m (λv _ h'=>(F8 e=true/\∃a c,v=.tuple #[.slice a (A8 e).length c,.int .i64 0]/\h'=.row (.slice a (A8 e).length c) 97 4 (A8 e).length (fl A3 (A8 e))::h)\/(F8 e=false/\v=.tuple #[.slice none 0 0,.int .i64 2]/\h'=h))) :
 CT prog f [exV e] h m (λv _ h'=>∃a c,v=.tuple #[.slice a (C2 e).length c,.int .i64 (b3h e)]/\h'=.row (.slice a (C2 e).length c) 97 4 (C2 e).length (fl A3 (C2 e))::h):=by
 refine⟨c.enter,λw hs=>Calls.mono (c.calls w hs) ?_⟩;rintro _ w' ⟨v,m',h',rfl,hle,hst,⟨hm,a,c,rfl,rfl⟩|⟨hm,rfl,rfl⟩⟩
 ·exact⟨_,m',_,rfl,hle,hst,a,c,by unfold C2 b3h;rw[hm];rfl,by unfold C2;rw[hm];rfl⟩
 ·exact⟨_,m',_,rfl,hle,hst.addNil 97 4,none,0,by unfold C2 b3h;rw[hm];rfl,by unfold C2;rw[hm];rfl⟩
theorem c5u{m:View}(hg:Glob m)(e:Ex)(h:List Res)(hT:TOk m h e)(hW:Wf e):CT prog 145 [exV e] h m (λv _ h'=>∃a c,v=.tuple #[.slice a (C2 e).length c,.int .i64 (b3h e)]/\h'=.row (.slice a (C2 e).length c) 97 4 (C2 e).length (fl A3 (C2 e))::h):=b7T (tokens_ct hg e h hT hW)
end
end Go.Proofs.YtkgfanibfkdbfaaGreatDoor
namespace Go.Proofs.YtkgfanibfkdbfaaGreatDoor.Ty9
open Go.Proofs.Tryz
section
open Go.Eng Go.Lx Go.Ty
def W3(h:List Res)(k:Int):Value->View->List Res->Prop:=A7 h (.tuple #[str (wordS k).1,.int .i64 (wordS k).2.1,.bool (wordS k).2.2])
theorem b0I{i:Nat}{p:Pm}(hp:prims[i]?=some p):((fl c1Q prims).drop (i*3)).take 3=c1Q p:=by
 match i,hp with
 |0,hp=>cases hp;rfl
 |1,hp=>cases hp;rfl
 |2,hp=>cases hp;rfl
theorem a8Z(k:Int)(h:List Res)(m:View)(hg:Glob m):CT prog 245 [.int .u8 k] h m (W3 h k):=by
 refine cB [0,2,3,4,6,7,8,9,14] func245 λ_=>?_;refine Z3 ?_;refine xG (K8 (vs:=fl c1Q prims) a8m rfl rfl Ev.global rfl (λj v hj=>by rw[Nat.zero_add];exact hg.prim j v hj)) ?_;refine Z1 ?_;refine B1 [0,7] rfl (λμ F' h'=>∃i:Nat,(i<=3/\wordS k=wordIn k (prims.drop i))/\3-i=μ/\F'=[(8,.int .i64 i)]/\h=h') (3-0) [(8,.int .i64 0)] (h0:=h) ?_ Sb ⟨0,⟨by omega,rfl⟩,rfl,rfl,rfl⟩ ?_;exact Su;rintro _ _ _ ⟨i,⟨hk,hJ⟩,rfl,rfl,rfl⟩;refine B2 rfl ?_;refine Z1 ?_;refine wD ?_ ?_<;>intro c9
 obtain⟨p,hp⟩:=A5 (l:=prims) (k:=i) (by show i<3;omega);rw[b4r k hp]at hJ;refine Z0 ?_;refine xG (a7H (sz:=3) (q:=i) a8m b4M rfl rfl Et Et rfl (by omega) (b0I hp)) ?_;refine xW λb6=>?_
 refine ZZ [1,4,0] ?_;refine wc ?_ ?_<;>intro c14
 rw[c14]at hJ;refine jE ?_;refine dS [] (.op 0 (.op 1 (.op 2 (.op 3 (.op 4 .nil))))) [5,6] C4 ?_;refine kA4 ?_;refine yG rfl (PO.assign Et) ?_;refine SR.nil rfl rfl ?_;refine Z2 ?_;refine WC.ret (b0V (h':=h) (.inl rfl) rfl (RV.tmp rfl) (RV.tmp rfl) (RV.tmp rfl) Vl Sb ?_);exact⟨by rw[hJ];rfl,rfl⟩;rw[c14]at hJ;refine ZZ [0,2] ?_;refine WL.nil (A6 (3-(i+1)) [(8,.int .i64 (i+1))] (h'':=h) (by omega) ?_ Su Sb ⟨i+1,⟨by omega,by simpa using hJ⟩,rfl,rfl,rfl⟩);exact Su;rw[List.drop_eq_nil_of_le (by show 3<=i;omega)]at hJ;refine ZZ [0,3,0] ?_;refine WC.ret (b0V (h':=h) (.inl rfl) rfl (RV.tmp rfl) (RV.tmp rfl) (RV.tmp rfl) Vl Sb ?_);exact⟨by rw[hJ];rfl,rfl⟩
theorem a4i(k:Int)(h:List Res)(m:View)(hg:Glob m):CT prog 294 [.int .u8 k] h m (A7 h (.bool (is k))):=by
 refine cB [0,2,5] func294 λ_=>?_;refine ZZ [1,1] ?_;refine xf (E1 Et) (a8Z _ _ _ hg) ?_;refine ZZ [7,2,0] ?_;refine wT h ?_;exact⟨rfl,rfl⟩
theorem prim_ct(k:Int)(h:List Res)(m:View):CT prog 283 [.int .u8 k] h m (A7 h (.bool (prim k))):=by
 refine cB [0,2] func283 λ_=>?_;refine ZZ [1,11,0] ?_;refine wT h ?_;exact⟨rfl,rfl⟩
theorem may_ct(t:Ty)(h:List Res)(m:View)(hg:Glob m)(hs:t.proto.length<=9223372036854775807):CT prog 235 [tyV t] h m (A7 h (.bool (may t))):=by
 refine cB [1,2,3,12,24,31] func235 λ_=>?_;refine xX λb1=>?_
 refine ZZ [1,9,0] ?_;refine wc ?_ ?_<;>intro c3
 have d3:far t=true:=c3;refine Z1 ?_;refine wT h ?_;exact⟨by unfold may;rw[d3];rfl,rfl⟩;have d3:far t=false:=c3;refine kA2 ?_;refine xf (E1 Et) (a4i _ _ _ hg) ?_;refine Z1 ?_;refine wc ?_ ?_<;>intro c12
 refine kA6 ?_;refine zG (λhc=>H3 (Eg hc) Ek) ?_;refine Z2 ?_;refine wT h ?_;exact⟨by unfold may;rw[d3,c12];rfl,rfl⟩;refine Z4 ?_;refine wc ?_ ?_<;>intro c24
 refine kA2 ?_;refine xG (a1i a8H (by kernel_rfl) (by kernel_rfl) Et Et rfl) ?_;refine Z1 ?_;refine wT h ?_;exact⟨by unfold may;rw[d3,c12,c24];rfl,rfl⟩;refine Z4 ?_;refine wc ?_ ?_<;>intro c31
 refine kA2 ?_;refine xf (E1 Et) (a1d _ _ _ hg (by assumption)) ?_;refine Z1 ?_;refine wT h ?_;exact⟨by unfold may;rw[d3,c12,c24,c31];rfl,rfl⟩;refine ZZ [0,2] ?_;refine xf (E1 Et) (a4i _ _ _ hg) ?_;refine kA3 ?_;refine zG (λhc=>H3 (Eg hc) Ek) ?_;refine Z2 ?_;refine wT h ?_;exact⟨by unfold may;rw[d3,c12,c24,c31];rfl,rfl⟩
theorem mayR_ct(t:Ty)(h:List Res)(m:View)(hs:t.proto.length<=9223372036854775807):CT prog 212 [tyV t] h m (A7 h (.bool (mayR t))):=by
 refine cB [1,2,10,13,24] func212 λ_=>?_;refine xX λb1=>?_
 refine ZZ [1,8,0] ?_;refine wc ?_ ?_<;>intro c10
 have d3:far t=true:=c10;refine Z1 ?_;refine wT h ?_;exact⟨by unfold mayR;rw[d3];rfl,rfl⟩;have d3:far t=false:=c10;refine ZZ [0,2] ?_;refine xf (E1 Et) (prim_ct _ _ _) ?_;refine Z0 ?_;refine wc ?_ ?_<;>intro c13
 refine kA6 ?_;refine zG (λhc=>H3 (Eg hc) Ek) ?_;refine Z2 ?_;refine wT h ?_;exact⟨by unfold mayR;rw[d3,c13];rfl,rfl⟩;refine ZZ [0,3,0] ?_;refine wc ?_ ?_<;>intro c24
 refine kA2 ?_;refine xf (E1 Et) (prim_ct _ _ _) ?_;refine kA3 ?_;refine zG (λhc=>H3 (Eg hc) Ek) ?_;refine kA8 ?_;refine A4 (a0q rfl rfl) (λhc=>⟨Ef,(E1 (Eg hc)),a06 _ _ _ (by assumption)⟩) Lb ?_;refine zG (λhc=>Q2 hc rfl rfl) ?_;refine Z2 ?_;refine wT h ?_;exact⟨by unfold mayR;rw[d3,c13,c24];rfl,rfl⟩;refine ZZ [0,2] ?_;refine xG (a1i a8H (by kernel_rfl) (by kernel_rfl) Et Et rfl) ?_;refine Z1 ?_;refine wT h ?_;exact⟨by unfold mayR;rw[d3,c13,c24];rfl,rfl⟩
theorem c0b(k:Int)(h:List Res)(m:View)(hg:Glob m):CT prog 344 [.int .u8 k] h m (A7 h (.bool (!is k))):=by
 refine cB [0,2] func344 λ_=>?_;refine ZZ [1,1] ?_;refine xf (E1 Et) (a4i _ _ _ hg) ?_;refine Z2 ?_;refine wT h ?_;exact⟨rfl,rfl⟩
theorem c4Q(q:FuncId)(pr:Int->Bool)(a:Option Addr)(k c:Nat)(l:List Int)(h:List Res)(m:View)(hq:∀x,CT prog q [.int .u8 x] h m (A7 h (.bool (pr x))))(hs:Rd m h a k c 1 (fl M8 l)) :
 CT prog 359 [.slice a k c,.func (.func q) #[] #[]] h m (A7 h (.int .i64 (idxF pr l 0))):=by
 have hl:=hs.lenF D3 (by decide);have hmx:=hs.mx;have hle:=hs.le;refine cB [0,1,4,5,7,8,9,16] func359 λ_=>?_;refine ZZ [1,3,0] ?_;refine B1 [0,1,7] rfl (λμ F' h'=>∃j:Nat,(j<=k/\idxF pr l 0=idxF pr (l.drop j) j)/\k-j=μ/\F'=[(8,.int .i64 j)]/\h=h') (k-0) [(8,.int .i64 0)] (h0:=h) ?_ Sb ⟨0,⟨by omega,rfl⟩,rfl,rfl,rfl⟩ ?_;exact Su;rintro _ _ _ ⟨j,⟨hk,hJ⟩,rfl,rfl,rfl⟩;refine B2 rfl ?_;refine Z1 ?_;refine wD ?_ ?_<;>intro c9
 obtain⟨x,hx⟩:=A5 (l:=l) (k:=j) (by omega);rw[idxF_drop pr hx]at hJ;refine ZZ [0,2,5] ?_;refine M6 (Ev.tmp rfl) (E1 (Ev.tmp rfl)) (hq x) Lb ?_;refine Z0 ?_;refine wc ?_ ?_<;>intro c16
 rw[c16]at hJ;refine Z2 ?_;refine wT h ?_;exact⟨by rw[hJ];rfl,rfl⟩;rw[c16]at hJ;refine ZZ [0,2] ?_;refine WL.nil (A6 (k-(j+1)) [(8,.int .i64 (j+1))] (h'':=h) (by omega) ?_ Su Sb ⟨j+1,⟨by omega,by simpa using hJ⟩,rfl,rfl,rfl⟩);exact Su;rw[List.drop_eq_nil_of_le (by omega)]at hJ;refine ZZ [0,1,0] ?_;refine wT h ?_;exact⟨by rw[hJ];rfl,rfl⟩
theorem c4D(q:FuncId)(pr:Int->Bool)(a:Option Addr)(k c:Nat)(l:List Int)(h:List Res)(m:View)(hq:∀x,CT prog q [.int .u8 x] h m (A7 h (.bool (pr x))))(hs:Rd m h a k c 1 (fl M8 l)) :
 CT prog 343 [.slice a k c,.func (.func q) #[] #[]] h m (A7 h (.bool (l.any pr))):=by
 refine cB [0,1,4] func343 λ_=>?_;refine ZZ [1,2] ?_;refine xf (E2 Et Et) (c4Q q pr _ _ _ l _ _ hq hs) ?_;refine Z2 ?_;refine wT h ?_;exact⟨congrArg Value.bool (idxF_any pr l 0 (by decide)),rfl⟩
theorem b4E(least:Int)(a:Option Addr)(k c:Nat)(l:List Int)(h:List Res)(m:View)(hg:Glob m)(hs:Rd m h a k c 1 (fl M8 l)) :
 CT prog 295 [.slice a k c,.int .i64 least] h m (A7 h (.bool (itemsB l least))):=by
 have hl:=hs.lenF D3 (by decide);subst hl;refine cB [0,1,4] func295 λ_=>?_;refine ZZ [1,11] ?_;refine A4 (GU.t rfl rfl) (λhc=>⟨Ef,(E2 (Eg hc) Ef),c4D 344 (λk=>!is k) _ _ _ l _ _ (λx=>c0b x _ _ hg) hs⟩) Lb ?_;refine Z3 ?_;refine wT h ?_;exact⟨rfl,rfl⟩
theorem b1N(least:Int)(a:Option Addr)(k c:Nat)(l:List Int)(h:List Res)(m:View)(hs:Rd m h a k c 1 (fl M8 l)) :
 CT prog 280 [.slice a k c,.int .i64 least] h m (A7 h (.bool (itemsB l least))):=by
 have hl:=hs.lenF D3 (by decide);subst hl;have hmx:=hs.mx;have hle:=hs.le;rw[c0y];refine cB [0,1,4,5,9,17] func280 λ_=>?_;refine ZZ [1,1,0] ?_;refine B1 [0,1] rfl (λμ F' h'=>∃j:Nat,(j<=l.length/\l.all prim=(l.drop j).all prim)/\l.length-j=μ/\F'=[(5,.int .i64 j)]/\h=h') (l.length-0) [(5,.int .i64 0)] (h0:=h) ?_ Sb ⟨0,⟨by omega,rfl⟩,rfl,rfl,rfl⟩ ?_;exact Su;rintro _ _ _ ⟨j,⟨hk,hJ⟩,rfl,rfl,rfl⟩;refine B2 rfl ?_;refine Z4 ?_;refine wD ?_ ?_<;>intro c9
 obtain⟨x,hx⟩:=A5 (l:=l) (k:=j) (by omega);rw[List.drop_eq_getElem_cons (by omega),(List.getElem?_eq_some_iff.1 hx).2,List.all_cons]at hJ;refine ZZ [0,4] ?_;refine xf (E1 Et) (prim_ct _ _ _) ?_;refine Z1 ?_;refine wc ?_ ?_<;>intro c17
 have d:prim x=false:=by simpa using c17
 rw[d]at hJ;refine Z1 ?_;refine wT h ?_;exact⟨by unfold b2X;rw[hJ];rfl,rfl⟩;have d:prim x=true:=by simpa using c17
 rw[d]at hJ;refine ZZ [0,3] ?_;refine WL.nil (A6 (l.length-(j+1)) [(5,.int .i64 (j+1))] (h'':=h) (by omega) ?_ Su Sb ⟨j+1,⟨by omega,by simpa using hJ⟩,rfl,rfl,rfl⟩);exact Su;rw[List.drop_eq_nil_of_le (by omega)]at hJ;refine ZZ [0,10,0] ?_;refine wT h ?_;exact⟨by unfold b2X;rw[hJ];rfl,rfl⟩
theorem a8q(s1 s2:Option Addr)(n1 c1 n2 c2:Nat)(xs ys:List _)(h:List Res)(m:View)(h1:Rd m h s1 n1 c1 1 (fl M8 xs))(h2:Rd m h s2 n2 c2 1 (fl M8 ys)) :
 CT prog 128 [.slice s1 n1 c1,.slice s2 n2 c2] h m (A7 h (.bool (eqL eqI xs ys))):=by
 have l1:=h1.lenF D3 (by decide);have l2:=h2.lenF D3 (by decide);have m1:=h1.mx;have m2:=h2.mx;have k1:=h1.le;have k2:=h2.le;refine cB [0,1,4,5,10,14,25] func128 λ_=>?_;refine ZZ [1,5,0] ?_;refine wN ?_ ?_<;>intro c10
 refine Z1 ?_;refine wT h ?_;exact⟨by rw[U4 _ _ _ (by omega)],rfl⟩;refine ZZ [0,1,0] ?_;refine B1 [0,1] rfl (λμ F' h'=>∃k:Nat,(k<=n1/\eqL eqI xs ys=eqL eqI (xs.drop k) (ys.drop k))/\n1-k=μ/\F'=[(5,.int .i64 k)]/\h=h') (n1-0) [(5,.int .i64 0)] (h0:=h) ?_ Sb ⟨0,⟨by omega,by simp⟩,rfl,rfl,rfl⟩ ?_;exact Su;rintro _ _ _ ⟨k,⟨hk,hJ⟩,rfl,rfl,rfl⟩;refine B2 rfl ?_;refine Z4 ?_;refine wD ?_ ?_<;>intro c14
 obtain⟨x,hx⟩:=A5 (l:=xs) (k:=k) (by omega);obtain⟨y,hy⟩:=A5 (l:=ys) (k:=k) (by omega);rw[R9 _ hx hy]at hJ;refine Z0 ?_;refine dS [] (.op 0 (.op 1 (.op 2 (.op 3 (.op 4 (.op 5 (.op 6 (.op 7 .nil)))))))) [8] C4 ?_;refine kA8 ?_;refine SR.nil rfl rfl ?_;refine Z1 ?_;refine wc ?_ ?_<;>intro c25
 refine Z1 ?_;refine wT h ?_;exact⟨by rw[hJ,a3c c25];rfl,rfl⟩;rw[a2J c25,Bool.true_and]at hJ;refine ZZ [0,3] ?_;refine WL.nil (A6 (n1-(k+1)) [(5,.int .i64 (k+1))] (h'':=h) (by omega) ?_ Su Sb ⟨k+1,⟨by omega,hJ⟩,rfl,rfl,rfl⟩);exact Su;refine ZZ [0,1,0] ?_;refine wT h ?_;exact⟨by rw[hJ,List.drop_eq_nil_of_le (by omega),List.drop_eq_nil_of_le (by omega)];rfl,rfl⟩
theorem b2P(w v:Vr)(b:Nat)(h:List Res)(m:View)(hb:Res.pt b (.cells (encV v).toArray 141 (0,0))∈h) :
 CT prog 297 [.agg (encV w).toArray,.pointer (some ⟨b,0,none⟩)] h m (A7 h (.bool (w.tag==v.tag))):=by
 refine cB [1,2,3] func297 λ_=>?_;refine xX λb2=>?_
 refine ZZ [1,3] ?_;refine xG (E9 uu9 rfl Et (List.Mem.tail _ hb) rfl) ?_;refine xG (H3 Et Et) ?_;refine Z1 ?_;refine wT h ?_;exact⟨rfl,rfl⟩
theorem c5E(q:FuncId)(pr:Vr->Bool)(cap:List Value)(a:Option Addr)(k c:Nat)(l:List Vr)(h:List Res)(m:View)(hq:∀x,x∈l->CT prog q ([.agg (encV x).toArray]++cap) h m (A7 h (.bool (pr x))))(hs:Rd m h a k c 2 (fl encV l)) :
 CT prog 345 [.slice a k c,.func (.func q) #[] cap.toArray] h m (A7 h (.int .i64 (idxF pr l 0))):=by
 have hl:=hs.lenF D2 (by decide);have hmx:=hs.mx;have hle:=hs.le;refine cB [0,1,4,5,7,8,9,16] func345 λ_=>?_;refine ZZ [1,3,0] ?_;refine B1 [0,1,7] rfl (λμ F' h'=>∃j:Nat,(j<=k/\idxF pr l 0=idxF pr (l.drop j) j)/\k-j=μ/\F'=[(8,.int .i64 j)]/\h=h') (k-0) [(8,.int .i64 0)] (h0:=h) ?_ Sb ⟨0,⟨by omega,rfl⟩,rfl,rfl,rfl⟩ ?_;exact Su;rintro _ _ _ ⟨j,⟨hk,hJ⟩,rfl,rfl,rfl⟩;refine B2 rfl ?_;refine Z1 ?_;refine wD ?_ ?_<;>intro c9
 obtain⟨x,hx⟩:=A5 (l:=l) (k:=j) (by omega);rw[idxF_drop pr hx]at hJ;refine ZZ [0,2,5] ?_;refine M6 (Ev.tmp rfl) (E1 (Ev.tmp rfl)) (hq x (List.mem_of_getElem? hx)) Lb ?_;refine Z0 ?_;refine wc ?_ ?_<;>intro c16
 rw[c16]at hJ;refine Z2 ?_;refine wT h ?_;exact⟨by rw[hJ];rfl,rfl⟩;rw[c16]at hJ;refine ZZ [0,2] ?_;refine WL.nil (A6 (k-(j+1)) [(8,.int .i64 (j+1))] (h'':=h) (by omega) ?_ Su Sb ⟨j+1,⟨by omega,by simpa using hJ⟩,rfl,rfl,rfl⟩);exact Su;rw[List.drop_eq_nil_of_le (by omega)]at hJ;refine ZZ [0,1,0] ?_;refine wT h ?_;exact⟨by rw[hJ];rfl,rfl⟩
theorem c4h(q:FuncId)(pr:Vr->Bool)(cap:List Value)(a:Option Addr)(k c:Nat)(l:List Vr)(h:List Res)(m:View)(hq:∀x,x∈l->CT prog q ([.agg (encV x).toArray]++cap) h m (A7 h (.bool (pr x))))(hs:Rd m h a k c 2 (fl encV l)) :
 CT prog 296 [.slice a k c,.func (.func q) #[] cap.toArray] h m (A7 h (.bool (l.any pr))):=by
 refine cB [0,1,4] func296 λ_=>?_;refine ZZ [1,2] ?_;refine xf (E2 Et Et) (c5E q pr cap _ _ _ l _ _ hq hs) ?_;refine Z2 ?_;refine wT h ?_;exact⟨congrArg Value.bool (idxF_any pr l 0 (by decide)),rfl⟩
theorem mayProto_ct(cs:Bool)(a:Option Addr)(k c:Nat)(l:List Vr)(h:List Res)(m:View)(hg:Glob m)(hp:PrOk m h a k c l) :
 CT prog 237 [prV cs a k c] h m (A7 h (.bool (mayPr cs l))):=by
 obtain⟨hs,hv,ht⟩:=hp;have hl:=hs.lenF D2 (by decide);subst hl;have hmx:=hs.mx;have hle:=hs.le;refine cB [1,2,3,4,7,37,39,40,41,42,63] func237 λ_=>?_;refine xX λb1=>?_
 refine ZZ [1,3,0] ?_;refine wc ?_ ?_<;>intro c7
 have hd:=b3O (l:=l);refine kA7 ?_;refine E8 (GU.t rfl rfl) (λhc=>D8 a0m.und a0m.size a0m.posz (Eg hc) Ek Rr rfl (q:=0) (by simp at hc;omega)) Lb ?_;refine zG (λhc=>G6 a7p rfl (Nat.ne_of_beq_eq_false rfl) D2 (Nat.succ_pos _) Rr (hd hc) (Eg hc)) ?_;refine zG (λhc=>G8 uu9 rfl D2 Rr (Eg hc) (hd hc) rfl) ?_;refine zG (λhc=>H3 (Eg hc) Ek) ?_;refine kA4 ?_;refine E8 (GU.t rfl rfl) (λhc=>D8 a0m.und a0m.size a0m.posz (Eg hc) Ek Rr rfl (q:=0) (by simp at hc;omega)) Lb ?_;refine zG (λhc=>G6 a7p rfl (Nat.ne_of_beq_eq_false rfl) D2 (Nat.succ_pos _) Rr (hd (b1S hc)) (Eg hc)) ?_;refine zG (λhc=>G8 a9J rfl D2 Rr (Eg hc) (hd (b1S hc)) rfl) ?_;refine A4 (GU.t rfl rfl) (λhc=>⟨Ef,(E2 (Eg hc) Ek),b4E 1 _ _ _ (hdV l).items _ _ hg ((hv _ (List.mem_of_getElem? (hd (b1S hc)))).rd.mono Vl Sb)⟩) Lb ?_;refine Z2 ?_;refine wT h ?_;exact⟨by unfold mayPr;rw[c7];rfl,rfl⟩;refine ZZ [0,10,0] ?_
 refine wc ?_ ?_<;>intro c37
 refine Z1 ?_;refine wT h ?_;exact⟨by unfold mayPr;rw[c7,c37];rfl,rfl⟩;refine ZZ [0,4,0] ?_;refine B1 [1,39,40] rfl (λμ F' h'=>∃j:Nat,(j<=l.length/\mayIn [] l=mayIn (l.take j) (l.drop j))/\l.length-j=μ/\F'=[(41,.int .i64 j)]/\.pt b1 (.cells (prL cs a l.length c).toArray 40 (0,0))::h=h') (l.length-0) [(41,.int .i64 0)] (h0:=.pt b1 (.cells (prL cs a l.length c).toArray 40 (0,0))::h) ?_ Sb ⟨0,⟨by omega,rfl⟩,rfl,rfl,rfl⟩ ?_;exact Su;rintro _ _ _ ⟨j,⟨hk,hJ⟩,rfl,rfl,rfl⟩;refine B2 rfl ?_;refine Z1 ?_;refine wD ?_ ?_<;>intro c42
 obtain⟨v,hx⟩:=A5 (l:=l) (k:=j) (by omega);rw[a9W hx]at hJ;have hvt:=ht v (List.mem_of_getElem? hx);have hvr:=(hv v (List.mem_of_getElem? hx)).rd;refine ZZ [0,3] ?_;refine xW λb4=>?_
 refine ZZ [2,2] ?_;refine xf (E1 Et) (a1d _ _ _ hg (by assumption)) ?_;refine kA4 ?_;refine A4 (GU.f rfl rfl) (λhc=>⟨Ef,(E2 (Eg hc) Ek),b4E 0 _ _ _ v.items _ _ hg Rr⟩) Lb ?_;refine kA6 ?_;refine E8 (GU.f rfl rfl) (λhc=>a7K a0m.und a0m.size (Eg hc) (Eg hc) rfl (by omega)) Lb ?_;refine zG (λ_=>PO.makeFunc Evs.nil (E1 Et)) ?_;refine A4 (GU.f rfl rfl) (λhc=>⟨Ef,(E2 (Eg hc) (Eg hc)),c4h 297 (λw=>w.tag==v.tag) [.pointer (some ⟨b4,0,none⟩)] _ _ _ (l.take j) _ _ (λx _=>b2P x v b4 _ _ Me) (Rd.takeF D2 (hs.mono Vl Sb) (by omega))⟩) Lb ?_;refine Z1 ?_;refine wc ?_ ?_<;>intro c63
 have d63:badV (l.take j) v=true:=c63;rw[d63]at hJ;refine Z1 ?_;refine wT h ?_;exact⟨by unfold mayPr;rw[c7,c37,hJ];rfl,rfl⟩;have d63:badV (l.take j) v=false:=c63;rw[d63]at hJ;refine ZZ [0,2] ?_;refine WL.nil (A6 (l.length-(j+1)) [(41,.int .i64 (j+1))] (h'':=.pt b1 (.cells (prL cs a l.length c).toArray 40 (0,0))::h) (by omega) ?_ Su Sb ⟨j+1,⟨by omega,by simpa using hJ⟩,rfl,rfl,rfl⟩);exact Su;rw[List.drop_eq_nil_of_le (by omega)]at hJ;refine ZZ [0,1,0] ?_;refine wT h ?_;exact⟨by unfold mayPr;rw[c7,c37,hJ];rfl,rfl⟩
theorem mayProtoR_ct(cs:Bool)(a:Option Addr)(k c:Nat)(l:List Vr)(h:List Res)(m:View)(hp:PrOk m h a k c l) :
 CT prog 207 [prV cs a k c] h m (A7 h (.bool (mayPr cs l))):=by
 obtain⟨hs,hv,ht⟩:=hp;have hl:=hs.lenF D2 (by decide);subst hl;have hmx:=hs.mx;have hle:=hs.le;refine cB [1,2,3,4,7,37,42,62,65,80] func207 λ_=>?_;refine xX λb1=>?_
 refine ZZ [1,3,0] ?_;refine wc ?_ ?_<;>intro c7
 have hd:=b3O (l:=l);refine kA7 ?_;refine E8 (GU.t rfl rfl) (λhc=>D8 a0m.und a0m.size a0m.posz (Eg hc) Ek Rr rfl (q:=0) (by simp at hc;omega)) Lb ?_;refine zG (λhc=>G6 a7p rfl (Nat.ne_of_beq_eq_false rfl) D2 (Nat.succ_pos _) Rr (hd hc) (Eg hc)) ?_;refine zG (λhc=>G8 uu9 rfl D2 Rr (Eg hc) (hd hc) rfl) ?_;refine zG (λhc=>H3 (Eg hc) Ek) ?_;refine kA4 ?_;refine E8 (GU.t rfl rfl) (λhc=>D8 a0m.und a0m.size a0m.posz (Eg hc) Ek Rr rfl (q:=0) (by simp at hc;omega)) Lb ?_;refine zG (λhc=>G6 a7p rfl (Nat.ne_of_beq_eq_false rfl) D2 (Nat.succ_pos _) Rr (hd (b1S hc)) (Eg hc)) ?_;refine zG (λhc=>G8 a9J rfl D2 Rr (Eg hc) (hd (b1S hc)) rfl) ?_;refine A4 (GU.t rfl rfl) (λhc=>⟨Ef,(E2 (Eg hc) Ek),b1N 1 _ _ _ (hdV l).items _ _ ((hv _ (List.mem_of_getElem? (hd (b1S hc)))).rd.mono Vl Sb)⟩) Lb ?_;refine Z2 ?_;refine wT h ?_;exact⟨by unfold mayPr;rw[c7];rfl,rfl⟩;refine ZZ [0,10,0] ?_
 refine wc ?_ ?_<;>intro c37
 refine Z1 ?_;refine wT h ?_;exact⟨by unfold mayPr;rw[c7,c37];rfl,rfl⟩;refine ZZ [0,1,0] ?_;refine B1 [1] rfl (λμ F' h'=>∃j:Nat,(j<=l.length/\mayIn [] l=mayIn (l.take j) (l.drop j))/\l.length-j=μ/\F'=[(3,.int .i64 j)]/\.pt b1 (.cells (prL cs a l.length c).toArray 40 (0,0))::h=h') (l.length-0) [(3,.int .i64 0)] (h0:=.pt b1 (.cells (prL cs a l.length c).toArray 40 (0,0))::h) ?_ Sb ⟨0,⟨by omega,rfl⟩,rfl,rfl,rfl⟩ ?_;exact Su;rintro _ _ _ ⟨j,⟨hk,hJ⟩,rfl,rfl,rfl⟩;refine B2 rfl ?_;refine Z5 ?_;refine wD ?_ ?_<;>intro c42
 obtain⟨v,hx⟩:=A5 (l:=l) (k:=j) (by omega);rw[a9W hx]at hJ;have hvt:=ht v (List.mem_of_getElem? hx);have hvr:=(hv v (List.mem_of_getElem? hx)).rd;refine ZZ [0,6] ?_;refine xf (E1 Et) (a06 _ _ _ (by assumption)) ?_;refine kA5 ?_;refine E8 (GU.f rfl rfl) (λhc=>D8 a0m.und a0m.size a0m.posz (Eg hc) (Eg hc) Rr rfl (by omega)) Lb ?_;refine zG (λhc=>G6 a7p rfl (Nat.ne_of_beq_eq_false rfl) D2 (Nat.succ_pos _) Rr (by assumption) (Eg hc)) ?_;refine zG (λhc=>G8 a9J rfl D2 Rr (Eg hc) (by assumption) rfl) ?_;refine A4 (GU.f rfl rfl) (λhc=>⟨Ef,(E2 (Eg hc) Ek),b1N 0 _ _ _ v.items _ _ Rr⟩) Lb ?_;refine Z2 ?_;refine wc ?_ ?_<;>intro c62
 rw[<-name_eq]at c62;have d62:badV (l.take j) v=true:=by unfold badV;rw[c62];rfl
 rw[d62]at hJ;refine Z1 ?_;refine wT h ?_;exact⟨by unfold mayPr;rw[c7,c37,hJ];rfl,rfl⟩;rw[<-name_eq]at c62;have d62:badV (l.take j) v=tagIn v.tag (l.take j):=by unfold badV;rw[c62];rfl
 rw[d62]at hJ;refine ZZ [0,1,0] ?_;refine B1 [1,3] rfl (λμ F' h'=>∃q:Nat,(q<=j/\tagIn v.tag (l.take j)=tagIn v.tag ((l.take j).drop q))/\j-q=μ/\F'=[(4,.int .i64 q)]/\.pt b1 (.cells (prL cs a l.length c).toArray 40 (0,0))::h=h') (j-0) [(4,.int .i64 0)] (h0:=.pt b1 (.cells (prL cs a l.length c).toArray 40 (0,0))::h) ?_ Sb ⟨0,⟨by omega,rfl⟩,rfl,rfl,rfl⟩ ?_;exact Su;rintro _ _ _ ⟨q,⟨hq,hT⟩,rfl,rfl,rfl⟩;refine B2 rfl ?_;refine Z3 ?_;refine wD ?_ ?_<;>intro c65
 obtain⟨w,hw⟩:=A5 (l:=l) (k:=q) (by omega);have hw':(l.take j)[q]?=some w:=by rw[List.getElem?_take_of_lt (by omega)];exact hw
 rw[b6M v.tag hw']at hT;refine Z0 ?_;refine dS [] (.op 0 (.op 1 (.op 2 (.op 3 (.op 4 (.op 5 (.op 6 (.op 7 (.op 8 (.op 9 (.op 10 (.op 11 .nil)))))))))))) [12] C4 ?_;refine a8L ?_;refine SR.nil rfl rfl ?_;refine xG (H3 Et Et) ?_;refine Z0 ?_;refine wc ?_ ?_<;>intro c80
 rw[c80,Bool.true_or]at hT;rw[hT]at hJ;refine Z1 ?_;refine wT h ?_;exact⟨by unfold mayPr;rw[c7,c37,hJ];rfl,rfl⟩;rw[c80,Bool.false_or]at hT;refine ZZ [0,3] ?_;refine WL.nil (A6 (j-(q+1)) [(4,.int .i64 (q+1))] (h'':=.pt b1 (.cells (prL cs a l.length c).toArray 40 (0,0))::h) (by omega) ?_ Su Sb ⟨q+1,⟨by omega,hT⟩,rfl,rfl,rfl⟩);exact Su;rw[List.drop_eq_nil_of_le (by rw[List.length_take];omega)]at hT;rw[hT]at hJ;refine ZZ [0,3] ?_;refine WL.nil (A6 (l.length-(j+1)) [(3,.int .i64 (j+1))] (h'':=.pt b1 (.cells (prL cs a l.length c).toArray 40 (0,0))::h) (by omega) ?_ Su Sb ⟨j+1,⟨by omega,hJ⟩,rfl,rfl,rfl⟩);exact Su;rw[List.drop_eq_nil_of_le (by omega)]at hJ;refine ZZ [0,1,0] ?_;refine wT h ?_;exact⟨by unfold mayPr;rw[c7,c37,hJ];rfl,rfl⟩
end
section
open Go.Eng Go.Lx Go.Ty
def TkR(h:List Res)(b:Nat)(L:List Tok):Value->View->List Res->Prop:=λv _ h'=>∃a c,v=.tuple #[]/\h'=.pt b (.cells [Value.slice a L.length c].toArray 68 (0,0))::.row (.slice a L.length c) 97 4 L.length (fl A3 L)::h
theorem a5C(kd:Int)(s:B)(k:Int)(b:Nat)(a:Option Addr)(c:Nat)(L L':List Tok)(h:List Res)(m:View)(hL:L.length<=100)(e:L++[⟨kd,0,s,IntKind.i32.wrap k⟩]=L') :
 CT prog 244 [.int .u8 kd,str s,.int .i64 k,.pointer (some ⟨b,0,none⟩)] (.pt b (.cells [Value.slice a L.length c].toArray 68 (0,0))::.row (.slice a L.length c) 97 4 L.length (fl A3 L)::h) m
  (TkR h b L'):=by
 subst e;refine cB [] func244 λ_=>?_;refine kR a λp q r=>?_
 refine kA4 ?_;refine xG (PO.conv uu3 a1X Et) ?_;refine kA1 ?_;refine xY B3 Eb λb13=>?_;refine xD B3 (Ev.tmp rfl) (Ev.tmp rfl) rfl (D4 (enc:=A3) _ (⟨kd,0,s,IntKind.i32.wrap k⟩)) λa14 c14=>?_
 refine kA1 ?_;refine WL.nil (w0 (.pt b (.cells [Value.slice a14 (L.length+1) c14].toArray 68 (0,0))::.row (.slice a14 (L.length+1) c14) 97 4 (L.length+1) (fl A3 (L++[⟨kd,0,s,IntKind.i32.wrap k⟩]))::h) ?_);exact⟨a14,c14,rfl,by rw[List.length_append];rfl⟩
def c9n(h:List Res)(p:List Tok×Int):Value->View->List Res->Prop:=λv _ h'=>∃a c,v=.tuple #[.slice a p.1.length c,.int .i64 p.2]/\h'=.row (.slice a p.1.length c) 97 4 p.1.length (fl A3 p.1)::h
theorem tokens_ct(t:Ty)(h:List Res)(m:View)(hg:Glob m)(hs:t.proto.length<=9223372036854775807):CT prog 144 [tyV t] h m (c9n h (tokens t)):=by
 refine cB [1,2,3,4,5,6,7,9,12,43,48] func144 λ_=>?_;refine xX λb1=>?_
 refine ZZ [2,1] ?_;refine xf (E1 Et) (may_ct t _ _ hg hs) ?_;refine Z1 ?_;refine wc ?_ ?_<;>intro c12
 have d12:may t=false:=by simpa using c12
 refine kA1 ?_;refine WL.addNil 97 4 ?_;refine Z1 ?_;refine w2 (.row (.slice none 0 0) 97 4 0 []::h) ?_;exact⟨none,0,by rw[a5M d12];rfl,by rw[a5M d12];rfl⟩;have d12:may t=true:=by simpa using c12
 refine Z0 ?_;refine xW λb4=>?_;refine WL.addNil 97 4 ?_;refine WL.take (r:=.pt b4 (.cells [Value.slice none 0 0].toArray 68 (0,0))) De ?_;refine Z0 ?_;refine xG (PO.makeFunc Evs.nil (E1 Et)) ?_;refine Z1 ?_;generalize hD:dimT t=D;have hDl:D.length<=3:=hD▸dimT_le t
 refine kP3 [1,4,5,16] ?_;refine F4 KKh [1,4,5] rfl (λF' h'=>∃a:Option Addr,∃c:Nat,(True)/\F'=[]/\.pt b4 (.cells [Value.slice a D.length c].toArray 68 (0,0))::.row (.slice a D.length c) 97 4 D.length (fl A3 D)::.pt b1 (.cells (I7 t).toArray 36 (0,0))::h=h') ?_ ?_;refine jE ?_;refine wc ?_ ?_<;>intro c16
 refine kA1 ?_;refine I3 (Ev.tmp rfl) (E3 Ek Ek Ek) (a5C 5 lb 0 b4 none 0 [] [B9 lb] _ _ (by decide) rfl) Lb ?_;rintro _ _ ⟨a18,p18,rfl,rfl⟩;refine ZZ [0,3] ?_;refine I3 (Ev.tmp rfl) (E3 Ek Ek (Ev.tmp rfl)) (a5C 3 [] t.dim b4 a18 p18 [B9 lb] [B9 lb,⟨3,0,[],t.dim⟩] _ _ (by decide) (by rw[b5S d12];rfl)) Lb ?_;rintro _ _ ⟨a22,p22,rfl,rfl⟩;refine ZZ [0,1] ?_;refine I3 (Ev.tmp rfl) (E3 Ek Ek Ek) (a5C 5 rb 0 b4 a22 p22 [B9 lb,⟨3,0,[],t.dim⟩] D _ _ (by simp) (by rw[<-hD];unfold dimT;rw[c16];rfl)) Lb ?_;rintro _ _ ⟨a24,p24,rfl,rfl⟩;refine WL.nil (B4 [] (h'':=.pt b4 (.cells [Value.slice a24 D.length p24].toArray 68 (0,0))::.row (.slice a24 D.length p24) 97 4 D.length (fl A3 D)::.pt b1 (.cells (I7 t).toArray 36 (0,0))::h) ?_ Su Sb ⟨a24,p24,by trivial,rfl,rfl⟩);exact Su;have e16:D=[]:=by rw[<-hD];unfold dimT;rw[c16];rfl
 refine V9 (h':=.pt b4 (.cells [Value.slice none D.length 0].toArray 68 (0,0))::.row (.slice none D.length 0) 97 4 D.length (fl A3 D)::.pt b1 (.cells (I7 t).toArray 36 (0,0))::h) (by rw[e16];rfl) ?_;refine WC.skip (B4 [] (h'':=.pt b4 (.cells [Value.slice none D.length 0].toArray 68 (0,0))::.row (.slice none D.length 0) 97 4 D.length (fl A3 D)::.pt b1 (.cells (I7 t).toArray 36 (0,0))::h) ?_ Su Sb ⟨none,0,by trivial,rfl,rfl⟩);exact Su;rintro _ _ ⟨a,c,hJ,rfl,rfl⟩;refine B2 rfl ?_;refine j0 ?_;generalize hE:D++chanT t=E;have hEl:E.length<=5:=by rw[<-hE,List.length_append];have:=chanT_le t;omega
 refine Z3 ?_;refine kP2 [1,4,5,6,28] ?_;refine F4 KKh [1,4,5] rfl (λF' h'=>∃a':Option Addr,∃c':Nat,(True)/\F'=[(6,.int .u8 (a5g t))]/\.pt b4 (.cells [Value.slice a' E.length c'].toArray 68 (0,0))::.row (.slice a' E.length c') 97 4 E.length (fl A3 E)::.pt b1 (.cells (I7 t).toArray 36 (0,0))::h=h') ?_ ?_;refine jE ?_;refine wc ?_ ?_<;>intro c28
 refine kA1 ?_;refine I3 (Ev.tmp rfl) (E3 Ek Ek Ek) (a5C 2 a1m 0 b4 a c D (D++[L7 a1m]) _ _ (by omega) rfl) Lb ?_;rintro _ _ ⟨a30,p30,rfl,rfl⟩;refine ZZ [0,1] ?_;refine I3 (Ev.tmp rfl) (E3 Ek Ek Ek) (a5C 2 cOF 0 b4 a30 p30 (D++[L7 a1m]) E _ _ (by simp;omega) (by rw[<-hE];unfold chanT;rw[c28];simp;rfl)) Lb ?_;rintro _ _ ⟨a32,p32,rfl,rfl⟩;refine ZZ [0,3] ?_;refine WL.nil (B4 [(6,.int .u8 (a5g t))] (h'':=.pt b4 (.cells [Value.slice a32 E.length p32].toArray 68 (0,0))::.row (.slice a32 E.length p32) 97 4 E.length (fl A3 E)::.pt b1 (.cells (I7 t).toArray 36 (0,0))::h) ?_ Su Sb ⟨a32,p32,by trivial,rfl,rfl⟩);refine Sub.consE rfl (congrArg (Value.int .u8) (by unfold a5g;rw[c28];rfl)) ?_;exact Su;have e28:E=D:=by rw[<-hE];unfold chanT;rw[c28];simp
 refine V9 (h':=.pt b4 (.cells [Value.slice a E.length c].toArray 68 (0,0))::.row (.slice a E.length c) 97 4 E.length (fl A3 E)::.pt b1 (.cells (I7 t).toArray 36 (0,0))::h) (by rw[e28]) ?_;refine WC.skip (B4 [(6,.int .u8 (a5g t))] (h'':=.pt b4 (.cells [Value.slice a E.length c].toArray 68 (0,0))::.row (.slice a E.length c) 97 4 E.length (fl A3 E)::.pt b1 (.cells (I7 t).toArray 36 (0,0))::h) ?_ Su Sb ⟨a,c,by trivial,rfl,rfl⟩);refine Sub.consE rfl (congrArg (Value.int .u8) (by unfold a5g;rw[c28];rfl)) ?_;exact Su;rintro _ _ ⟨a',c',hJ,rfl,rfl⟩;refine B2 rfl ?_;refine kA1 ?_;refine xf (E1 Et) (a8Z _ _ _ hg) ?_;refine ZZ [7,2,0] ?_;refine wc ?_ ?_<;>intro c43
 refine kA2 ?_;refine I3 (Ev.tmp rfl) (E3 Ek (Ev.tmp rfl) Ek) (a5C 2 (wordS (a5g t)).1 0 b4 a' c' E (toks t) _ _ (by omega) (by unfold toks;rw[hD,hE];unfold lastT;rw[c43];rfl)) Lb ?_;rintro _ _ ⟨a47,p47,rfl,rfl⟩;refine ZZ [0,3,0] ?_;refine w2 (.row (.slice a47 (toks t).length p47) 97 4 (toks t).length (fl A3 (toks t))::h) ?_;exact⟨a47,p47,by rw[N9 d12],by rw[N9 d12]⟩;refine kA2 ?_;refine xG (S2 Et Ek) ?_;refine Z1 ?_;refine wc ?_ ?_<;>intro c48
 refine kA3 ?_;refine I3 (Ev.tmp rfl) (E3 Ek (Ev.tmp rfl) Ek) (a5C 1 t.proto 0 b4 a' c' E (toks t) _ _ (by omega) (by unfold toks;rw[hD,hE];unfold lastT;rw[c43,c48];rfl)) Lb ?_;rintro _ _ ⟨a55,p55,rfl,rfl⟩;refine ZZ [0,3,0] ?_;refine w2 (.row (.slice a55 (toks t).length p55) 97 4 (toks t).length (fl A3 (toks t))::h) ?_;exact⟨a55,p55,by rw[N9 d12],by rw[N9 d12]⟩;refine kA1 ?_;refine I3 (Ev.tmp rfl) (E3 Ek Ek Ek) (a5C 2 a3e 0 b4 a' c' E (toks t) _ _ (by omega) (by unfold toks;rw[hD,hE];unfold lastT;rw[c43,c48];rfl)) Lb ?_;rintro _ _ ⟨a42,p42,rfl,rfl⟩;refine ZZ [0,3,0] ?_;refine w2 (.row (.slice a42 (toks t).length p42) 97 4 (toks t).length (fl A3 (toks t))::h) ?_;exact⟨a42,p42,by rw[N9 d12],by rw[N9 d12]⟩
abbrev FL(b1 b2 b3 b5:Nat)(a:Option Addr)(k c:Nat)(t:Ty)(n:Nat):List Res:=
 [.pt b5 (.cells [Value.func (.func 330) [].toArray [Value.pointer (some ⟨b3,0,none⟩),.pointer (some ⟨b1,0,none⟩)].toArray].toArray 321 (0,0)),
  .pt b3 (.cells [Value.int .i64 n].toArray 3 (0,0)),.pt b2 (.cells (I7 t).toArray 36 (0,0)),.pt b1 (.cells [Value.slice a k c].toArray 68 (0,0))]
theorem U2(b1 b2 b3 b5:Nat)(a:Option Addr)(k c:Nat)(l:List Tok)(t:Ty)(n:Nat)(kd:Int)(s:B)(h:List Res)(m:View)(hs:Rd m h a k c 4 (fl A3 l))(hn:n<=k) :
 CT prog 330 [.int .u8 kd,str s,.pointer (some ⟨b3,0,none⟩),.pointer (some ⟨b1,0,none⟩)] (FL b1 b2 b3 b5 a k c t n++h) m (A7 (FL b1 b2 b3 b5 a k c t (nx (next l n kd s) n)++h) (.bool (next l n kd s))):=by
 have hl:=hs.lenF B8 (by decide);subst hl;have hmx:=hs.mx;have hle:=hs.le;have hq:n<l.length->l[n]?=some (L1 l n):=a2G;refine cB [0,1,2,3,6,40] func330 λ_=>?_;refine ZZ [1,5] ?_;refine zG (λ_=>pL a4J) ?_;refine zG (λ_=>pL uu3) ?_;refine E8 (GU.f rfl rfl) (λhc=>D8 B3.und B3.size B3.posz (Eg hc) (Eg hc) Rr rfl (by simp at hc;omega)) Lb ?_;refine E8 (GU.f rfl rfl) (λhc=>G6 M4 rfl (Nat.ne_of_beq_eq_false rfl) B8 (Nat.succ_pos _) Rr (hq (by simp at hc;omega)) (Eg hc)) Lb ?_;refine E8 (GU.f rfl rfl) (λhc=>G8 b4X rfl B8 Rr (Eg hc) (hq (by simp at hc;omega)) rfl) Lb ?_;refine kA4 ?_;refine zG (λ_=>pL a4J) ?_;refine zG (λ_=>pL uu3) ?_;refine E8 (GU.f rfl rfl) (λhc=>D8 B3.und B3.size B3.posz (Eg hc) (Eg hc) Rr rfl (by simp at hc;omega)) Lb ?_;refine E8 (GU.f rfl rfl) (λhc=>G6 M4 rfl (Nat.ne_of_beq_eq_false rfl) B8 (Nat.succ_pos _) Rr (hq (by simp at hc;omega)) (Eg hc)) Lb ?_;refine E8 (GU.f rfl rfl) (λhc=>G8 uu9 rfl B8 Rr (Eg hc) (hq (by simp at hc;omega)) rfl) Lb ?_;refine kA1 ?_;refine zG (λhc=>S2 (Eg hc) (Eg hc)) ?_
 refine kA5 ?_;refine zG (λ_=>pL a4J) ?_;refine zG (λ_=>pL uu3) ?_;refine E8 (a0q rfl rfl) (λhc=>D8 B3.und B3.size B3.posz (Eg hc) (Eg hc) Rr rfl (by simp at hc;omega)) Lb ?_;refine E8 (a0q rfl rfl) (λhc=>G6 M4 rfl (Nat.ne_of_beq_eq_false rfl) B8 (Nat.succ_pos _) Rr (hq (by simp at hc;omega)) (Eg hc)) Lb ?_;refine E8 (a0q rfl rfl) (λhc=>G8 a1X rfl B8 Rr (Eg hc) (hq (by simp at hc;omega)) rfl) Lb ?_;refine kA1 ?_;refine zG (λhc=>Q2 hc rfl rfl) ?_;refine Z1 ?_;refine wc ?_ ?_<;>intro c40
 have d:next l n kd s=false:=by unfold next;rw[show a4D l n kd s=true from c40];rfl
 refine Z1 ?_;refine wT (FL b1 b2 b3 b5 a l.length c t n++h) ?_;rw[d];exact⟨rfl,rfl⟩
 have d:next l n kd s=true:=by unfold next;rw[show a4D l n kd s=false from c40];rfl
 have hlt:=a4o d;refine ZZ [0,3,1,0] ?_;refine wT (FL b1 b2 b3 b5 a l.length c t (n+1)++h) ?_;rw[d];exact⟨rfl,rfl⟩
theorem c01(x1 x2 x3 x5:Nat)(a:Option Addr)(k c:Nat)(l:List Tok)(t:Ty)(n:Nat)(h:List Res)(m:View)(hg:Glob m)(hs:Rd m h a k c 4 (fl A3 l))(hn:n<=k) :
 CT prog 331 [.pointer (some ⟨x2,0,none⟩),.pointer (some ⟨x5,0,none⟩)] (FL x1 x2 x3 x5 a k c t n++h) m (A7 (FL x1 x2 x3 x5 a k c (a5J t (named l n)) (nx (nmB l n) n)++h) (.bool (nmB l n))):=by
 refine cB [0,1,3,5,6,7,8,13] func331 λ_=>?_;refine Z1 ?_;refine xG (K8 (vs:=fl c1Q prims) a8m rfl rfl Ev.global rfl (λj v hj=>by rw[Nat.zero_add];exact hg.prim j v hj)) ?_;refine Z1 ?_;refine B1 [0,1,6] rfl (λμ F' h'=>∃i:Nat,(i<=3/\named l n=a3B l n (prims.drop i))/\3-i=μ/\F'=[(7,.int .i64 i)]/\FL x1 x2 x3 x5 a k c t n++h=h') (3-0) [(7,.int .i64 0)] (h0:=FL x1 x2 x3 x5 a k c t n++h) ?_ Sb ⟨0,⟨by omega,rfl⟩,rfl,rfl,rfl⟩ ?_;exact Su;rintro _ _ _ ⟨i,⟨hk,hJ⟩,rfl,rfl,rfl⟩;refine B2 rfl ?_;refine Z1 ?_;refine wD ?_ ?_<;>intro c8
 obtain⟨p,hp⟩:=A5 (l:=prims) (k:=i) (by show i<3;omega);rw[a7m l n hp]at hJ;refine Z0 ?_;refine xG (a7H (sz:=3) (q:=i) a8m b4M rfl rfl Et Et rfl (by omega) (b0I hp)) ?_;refine xW λb5=>?_
 refine ZZ [1,3] ?_;refine I3 (Ev.tmp rfl) (E2 Ek (Ev.tmp rfl)) (CT.frame (fr:=[_]) (hs:=h) (U2 x1 x2 x3 x5 a k c l t n 2 p.word _ _ (hs.mono Vl (List.sublist_cons_self _ _)) hn)) Lb ?_;rintro _ _ ⟨rfl,rfl⟩;refine Z0 ?_;refine wc ?_ ?_<;>intro c13
 rw[c13]at hJ;rw[c13];refine ZZ [5,1,0] ?_;refine wT (FL x1 x2 x3 x5 a k c (a5J t (some p.kind)) (n+1)++h) ?_;rw[nmB,hJ];exact⟨rfl,rfl⟩
 rw[c13]at hJ;rw[c13];refine ZZ [0,2] ?_;refine WL.nil (A6 (3-(i+1)) [(7,.int .i64 (i+1))] (h'':=FL x1 x2 x3 x5 a k c t n++h) (by omega) ?_ Su Sb ⟨i+1,⟨by omega,by simpa using hJ⟩,rfl,rfl,rfl⟩);exact Su;rw[List.drop_eq_nil_of_le (by show 3<=i;omega)]at hJ;refine ZZ [0,1,0] ?_;refine wT (FL x1 x2 x3 x5 a k c t n++h) ?_;rw[nmB,hJ];exact⟨rfl,rfl⟩
theorem c0f(x1 x2 x3 x5:Nat)(a:Option Addr)(k c:Nat)(l:List Tok)(t:Ty)(n:Nat)(h:List Res)(m:View)(hg:Glob m)(hs:Rd m h a k c 4 (fl A3 l))(hn:n<=k) :
 CT prog 331 [.pointer (some ⟨x2,2,none⟩),.pointer (some ⟨x5,0,none⟩)] (FL x1 x2 x3 x5 a k c t n++h) m (A7 (FL x1 x2 x3 x5 a k c (a7l t (named l n)) (nx (nmB l n) n)++h) (.bool (nmB l n))):=by
 refine cB [0,1,3,5,6,7,8,13] func331 λ_=>?_;refine Z1 ?_;refine xG (K8 (vs:=fl c1Q prims) a8m rfl rfl Ev.global rfl (λj v hj=>by rw[Nat.zero_add];exact hg.prim j v hj)) ?_;refine Z1 ?_;refine B1 [0,1,6] rfl (λμ F' h'=>∃i:Nat,(i<=3/\named l n=a3B l n (prims.drop i))/\3-i=μ/\F'=[(7,.int .i64 i)]/\FL x1 x2 x3 x5 a k c t n++h=h') (3-0) [(7,.int .i64 0)] (h0:=FL x1 x2 x3 x5 a k c t n++h) ?_ Sb ⟨0,⟨by omega,rfl⟩,rfl,rfl,rfl⟩ ?_;exact Su;rintro _ _ _ ⟨i,⟨hk,hJ⟩,rfl,rfl,rfl⟩;refine B2 rfl ?_;refine Z1 ?_;refine wD ?_ ?_<;>intro c8
 obtain⟨p,hp⟩:=A5 (l:=prims) (k:=i) (by show i<3;omega);rw[a7m l n hp]at hJ;refine Z0 ?_;refine xG (a7H (sz:=3) (q:=i) a8m b4M rfl rfl Et Et rfl (by omega) (b0I hp)) ?_;refine xW λb5=>?_
 refine ZZ [1,3] ?_;refine I3 (Ev.tmp rfl) (E2 Ek (Ev.tmp rfl)) (CT.frame (fr:=[_]) (hs:=h) (U2 x1 x2 x3 x5 a k c l t n 2 p.word _ _ (hs.mono Vl (List.sublist_cons_self _ _)) hn)) Lb ?_;rintro _ _ ⟨rfl,rfl⟩;refine Z0 ?_;refine wc ?_ ?_<;>intro c13
 rw[c13]at hJ;rw[c13];refine ZZ [5,1,0] ?_;refine wT (FL x1 x2 x3 x5 a k c (a7l t (some p.kind)) (n+1)++h) ?_;rw[nmB,hJ];exact⟨rfl,rfl⟩
 rw[c13]at hJ;rw[c13];refine ZZ [0,2] ?_;refine WL.nil (A6 (3-(i+1)) [(7,.int .i64 (i+1))] (h'':=FL x1 x2 x3 x5 a k c t n++h) (by omega) ?_ Su Sb ⟨i+1,⟨by omega,by simpa using hJ⟩,rfl,rfl,rfl⟩);exact Su;rw[List.drop_eq_nil_of_le (by show 3<=i;omega)]at hJ;refine ZZ [0,1,0] ?_;refine wT (FL x1 x2 x3 x5 a k c t n++h) ?_;rw[nmB,hJ];exact⟨rfl,rfl⟩
theorem front_ct(a:Option Addr)(k c:Nat)(l:List Tok)(h:List Res)(m:View)(hg:Glob m)(hs:Rd m h a k c 4 (fl A3 l))(hT:TkOk l) :
 CT prog 267 [.slice a k c] h m (A7 h (.tuple #[tyV (front l).1,.int .i64 (front l).2.1,.int .i64 (front l).2.2])):=by
 have hl:=hs.lenF B8 (by decide);subst hl;have hmx:=hs.mx;have hle:=hs.le;refine cB [1,2,3,4,5,6,7,14,30,38,65,73,83] func267 λ_=>?_;refine xX λb1=>?_
 refine xW λb2=>?_;refine xW λb3=>?_
 refine Z1 ?_;refine xG (PO.makeFunc Evs.nil (E2 Et Et)) ?_;refine xW λb5=>?_;refine Z1 ?_;refine xG (PO.makeFunc Evs.nil (E1 Et)) ?_;refine ZZ [1,1,0] ?_;refine a1L (h':=FL b1 b2 b3 b5 a l.length c zeroT 0++h) rfl ?_;refine kA1 ?_;refine I3 (Ev.tmp rfl) (E2 Ek Ek) (U2 b1 b2 b3 b5 a _ c l zeroT 0 5 lb h _ hs (by omega)) Lb ?_;rintro _ _ ⟨rfl,rfl⟩;refine kP0 [1,2,3,5,6,7,11] ?_;refine F4 KKh [1,2,3,5,6] rfl (λF' h'=>∃ok:Bool,∃d:Int,∃n:Nat,(pre l=(ok,d,n)/\n<=l.length)/\F'=[(7,.bool ok)]/\FL b1 b2 b3 b5 a l.length c ⟨0,d,0,[]⟩ n++h=h') ?_ ?_;refine jE ?_;refine wc ?_ ?_<;>intro c11
 have hl0:=a4o c11;refine V9 (h':=FL b1 b2 b3 b5 a l.length c zeroT 1++h) (by rw[c11];rfl) ?_;refine kA1 ?_;refine I3 (Ev.tmp rfl) (E2 Ek Ek) (U2 b1 b2 b3 b5 a _ c l zeroT 1 3 [] h _ hs (by omega)) Lb ?_;rintro _ _ ⟨rfl,rfl⟩;refine ZZ [1,1,0] ?_;refine wc ?_ ?_<;>intro c14
 have hl1:=a4o c14;have h1:=a2G hl1;have hw:=(hT _ (List.mem_of_getElem? h1)).1;refine V9 (h':=FL b1 b2 b3 b5 a l.length c zeroT 2++h) (by rw[c14];rfl) ?_;refine kA2 ?_;refine xG (Q4 Et Ek (by omega)) ?_;refine xG (D8 B3.und B3.size B3.posz (Ev.tmp rfl) (Ev.tmp rfl) Rr (q:=1) (by omega) (by omega)) ?_;refine kA2 ?_;refine xG (PO.conv a1X uu3 Et) ?_;refine WL.val (v':=.int .i64 (L1 l 1).n) (congrArg (Value.int .i64) (wrapN hw)) ?_;refine kA2 ?_;refine a1L (h':=FL b1 b2 b3 b5 a l.length c ⟨0,(L1 l 1).n,0,[]⟩ 2++h) rfl ?_;refine ZZ [0,4] ?_;refine zG (λ_=>pL c3O) ?_;refine a5Q (GU.t rfl rfl) (λhc=>⟨(Y9 rfl hc),(E2 Ek Ek),CT.outE (h2:=FL b1 b2 b3 b5 a l.length c ⟨0,(L1 l 1).n,0,[]⟩ (nx (decide ((L1 l 1).n>0)&&next l 2 5 rb) 2)++h) (by rw[hc,Bool.true_and]) (U2 b1 b2 b3 b5 a _ c l ⟨0,(L1 l 1).n,0,[]⟩ 2 5 rb h _ hs (by omega))⟩) (λhc=>(by rw[hc];rfl)) Lb ?_;refine kA2 ?_
 refine WL.nil (B4 [(7,.bool ((decide ((L1 l 1).n>0)&&next l 2 5 rb)))] (h'':=FL b1 b2 b3 b5 a l.length c ⟨0,((L1 l 1).n),0,[]⟩ (nx (decide ((L1 l 1).n>0)&&next l 2 5 rb) 2)++h) ?_ Su Sb ⟨(decide ((L1 l 1).n>0)&&next l 2 5 rb),(L1 l 1).n,nx (decide ((L1 l 1).n>0)&&next l 2 5 rb) 2,⟨b7n c11 c14,c3l (λe=>a4o (by simp at e;exact e.2)) (by omega)⟩,rfl,rfl⟩);exact Su;refine V9 (h':=FL b1 b2 b3 b5 a l.length c zeroT 1++h) (by rw[c14];rfl) ?_;refine WC.skip (B4 [(7,.bool false)] (h'':=FL b1 b2 b3 b5 a l.length c ⟨0,0,0,[]⟩ 1++h) ?_ Su Sb ⟨false,0,1,⟨c3V c11 c14,by omega⟩,rfl,rfl⟩);refine Sub.consE rfl (congrArg Value.bool c14) ?_;exact Su;refine V9 (h':=FL b1 b2 b3 b5 a l.length c zeroT 0++h) (by rw[c11];rfl) ?_;refine WC.skip (B4 [(7,.bool true)] (h'':=FL b1 b2 b3 b5 a l.length c ⟨0,0,0,[]⟩ 0++h) ?_ Su Sb ⟨true,0,0,⟨c1t c11,by omega⟩,rfl,rfl⟩);exact Su
 rintro _ _ ⟨ok,d,n,⟨hP,hn⟩,rfl,rfl⟩;refine B2 rfl ?_;refine jS ?_;refine F4 KKh [2,3] rfl (λF' h'=>∃okB:Bool,∃t:Ty,∃nB:Nat,(mid l=(okB,t,nB)/\t.proto.length<=9223372036854775807)/\F'=[(7,.bool okB)]/\FL b1 b2 b3 b5 a l.length c t nB++h=h') ?_ ?_;refine kA5 ?_;refine a5Q (GU.f rfl rfl) (λhc=>⟨(Y9 rfl hc),(E1 (Y9 rfl hc)),CT.outE (h2:=FL b1 b2 b3 b5 a l.length c (a5J ⟨0,d,0,[]⟩ (if ok then named l n else none)) (nx (ok&&nmB l n) n)++h) (by revert hc;cases ok;exact λhc=>absurd hc (by decide);exact λ_=>rfl) (c01 b1 b2 b3 b5 a _ c l ⟨0,d,0,[]⟩ n h _ hg hs hn)⟩) (λhc=>(by revert hc;cases ok;exact λ_=>rfl;exact λhc=>absurd hc (by decide))) Lb ?_;refine Z2 ?_;refine wc ?_ ?_<;>intro c30
 refine WC.skip (B4 [(7,.bool ok)] (h'':=FL b1 b2 b3 b5 a l.length c (a5J ⟨0,d,0,[]⟩ (if ok then named l n else none)) (nx (ok&&nmB l n) n)++h) ?_ Su Sb ⟨ok,a5J ⟨0,d,0,[]⟩ (if ok then named l n else none),nx (ok&&nmB l n) n,⟨c5t hP c30,by cases ok;exact Nat.zero_le _;cases named l n;exact Nat.zero_le _;exact Nat.zero_le _⟩,rfl,rfl⟩);exact Su;obtain⟨rfl,hnm⟩:ok=true/\nmB l n=false:=by revert c30;cases ok<;>simp
 have hN:=b6t hnm;refine V9 (h':=FL b1 b2 b3 b5 a l.length c ⟨0,d,0,[]⟩ n++h) (by rw[hN,hnm];rfl) ?_;refine kA1 ?_;refine I3 (Ev.tmp rfl) (E2 Ek Ek) (U2 b1 b2 b3 b5 a _ c l ⟨0,d,0,[]⟩ n 2 a1m h _ hs hn) Lb ?_;rintro _ _ ⟨rfl,rfl⟩;refine Z1 ?_;refine wc ?_ ?_<;>intro c38
 have hln:=a4o c38;refine V9 (h':=FL b1 b2 b3 b5 a l.length c ⟨0,d,0,[]⟩ (n+1)++h) (by rw[c38];rfl) ?_;refine kA2 ?_;refine a1L (h':=FL b1 b2 b3 b5 a l.length c ⟨4,d,0,[]⟩ (n+1)++h) rfl ?_;refine ZZ [0,1] ?_;refine I3 (Ev.tmp rfl) (E2 Ek Ek) (U2 b1 b2 b3 b5 a _ c l ⟨4,d,0,[]⟩ (n+1) 2 cOF h _ hs (by omega)) Lb ?_;rintro _ _ ⟨rfl,rfl⟩;refine kA1 ?_;refine wn [1,2,3,5,6,7] ?_;refine jE ?_;have hNle:nx (next l (n+1) 2 cOF) (n+1)<=l.length:=c3l (λe=>a4o e) (by omega);generalize ho:next l (n+1) 2 cOF=o at *;generalize hNN:nx o (n+1)=N at *;have hN2le:nx (o&&nmB l N) N<=l.length:=c3l (λe=>c7p (by simp at e;exact e.2)) hNle;refine WC.take (r:=.pt b2 (.cells (I7 ⟨4,d,0,[]⟩).toArray 36 (0,0))) De ?_;refine WC.take (r:=.pt b3 (.cells [Value.int .i64 N].toArray 3 (0,0))) De ?_
 refine F3 [4,8,16] (.op 0 (.op 1 (.op 2 (.op 3 (.op 4 (.op 5 (.op 6 (.op 7 (.op 9 (.op 10 (.op 8 (.op 11 (.op 12 (.op 13 (.op 14 (.op 15 (.op 16 (.op 17 (.op 18 (.op 19 .nil)))))))))))))))))))) [20,21] _ [.pt b3 (.cells [Value.int .i64 N].toArray 3 (0,0)),.pt b2 (.cells (I7 ⟨4,d,0,[]⟩).toArray 36 (0,0))] C4 (λ_ _ _ _ _ h=>h) [] (by kernel_rfl) ?_;refine kA2 ?_;refine C0 rfl rfl (GU.t rfl rfl) (λhc=>PO.move Et) Lb ?_;refine kA1 ?_;refine b9f rfl rfl (GU.t rfl rfl) (λhc=>⟨(Y9 rfl hc),(E1 (Y9 rfl hc)),λfr=>CT.perm (b2a _ _ _ _) (CT.outE (h2:=FL b1 b2 b3 b5 a l.length c (a7l ⟨4,d,0,[]⟩ (if o then named l N else none)) (nx (o&&nmB l N) N)++(fr++h)) (by rw[hc];rfl) (c0f b1 b2 b3 b5 a _ c l ⟨4,d,0,[]⟩ N (fr++h) _ hg (hs.mono Vl (List.sublist_append_right _ _)) hNle)) (b2a _ _ _ _).symm⟩) (λhc=>(by rw[hc];rfl)) Lb ?_;generalize hN2:nx (o&&nmB l N) N=N2 at *
 generalize hT2:a7l ⟨4,d,0,[]⟩ (if o then named l N else none)=T2;have hq:N2<l.length->l[N2]?=some (L1 l N2):=a2G;refine C0 rfl rfl (GU.t rfl rfl) (λhc=>PO.not (Eg hc)) Lb ?_;refine kA2 ?_;refine C0 rfl rfl (GU.t rfl rfl) (λhc=>E9 a4J rfl Et Me rfl) Lb ?_;refine C0 rfl rfl (GU.t rfl rfl) (λhc=>Y8 a4J (Eg hc)) Lb ?_;refine b8s rfl rfl (GU.t rfl rfl) (λhc fr=>E9 uu3 rfl Et (List.mem_append_right _ Me) rfl) Lb ?_;refine C0 rfl rfl (GU.t rfl rfl) (λhc=>P0 (Eg hc) (Eg hc) rfl) Lb ?_;refine kA2 ?_;refine C0 rfl rfl (GU.t rfl rfl) (λhc=>E9 c3O rfl Et Me rfl) Lb ?_;refine C0 rfl rfl (GU.t rfl rfl) (λhc=>E9 a4J rfl Et Me rfl) Lb ?_;refine b8s rfl rfl (GU.t rfl rfl) (λhc fr=>E9 uu3 rfl Et (List.mem_append_right _ Me) rfl) Lb ?_;refine C0 rfl rfl (GU.t rfl rfl) (λhc=>D8 B3.und B3.size B3.posz (Eg hc) (Eg hc) Rr rfl (by simp at hc;omega)) Lb ?_
 refine C0 rfl rfl (GU.t rfl rfl) (λhc=>G6 M4 rfl (Nat.ne_of_beq_eq_false rfl) B8 (Nat.succ_pos _) Rr (hq (by simp at hc;omega)) (Eg hc)) Lb ?_;refine C0 rfl rfl (GU.t rfl rfl) (λhc=>G8 uu9 rfl B8 Rr (Eg hc) (hq (by simp at hc;omega)) rfl) Lb ?_;refine SR.nil rfl rfl ?_;refine WL.take (r:=.pt b5 (.cells [Value.func (.func 330) [].toArray [Value.pointer (some ⟨b3,0,none⟩),.pointer (some ⟨b1,0,none⟩)].toArray].toArray 321 (0,0))) De ?_;refine a5Q (GU.t rfl rfl) (λhc=>⟨(Y9 rfl hc),(E2 Ek (Y9 rfl hc)),CT.outE (h2:=FL b1 b2 b3 b5 a l.length c T2 (nx ((o&&!nmB l N)&&decide ((N2:Int)<l.length)&&next l N2 1 (L1 l N2).text) N2)++h) (by rw[hc,Bool.true_and]) (U2 b1 b2 b3 b5 a _ c l T2 N2 1 (L1 l N2).text h _ hs hN2le)⟩) (λhc=>(by rw[hc];rfl)) Lb ?_;refine Z1 ?_;refine wc ?_ ?_<;>intro c65
 have d65:((o&&!nmB l N)&&decide ((N2:Int)<l.length)&&next l N2 1 (L1 l N2).text)=true:=c65;have hM:=c1z hP hN c38 ho hNN hN2 hT2 d65;have hlt:N2<l.length:=by simp at d65;omega
 have h2:=a2G hlt;refine V9 (h':=FL b1 b2 b3 b5 a l.length c T2 (N2+1)++h) (by rw[d65];rfl) ?_;refine kA2 ?_;refine xG (Q4 Et Ek (by omega)) ?_;refine xG (D8 B3.und B3.size B3.posz (Ev.tmp rfl) (Ev.tmp rfl) Rr (q:=N2) (by omega) (by omega)) ?_;refine kA4 ?_;refine a1L (h':=FL b1 b2 b3 b5 a l.length c { T2 with proto:=(L1 l N2).text } (N2+1)++h) rfl ?_;refine WL.nil (B4 [(7,.bool o)] (h'':=FL b1 b2 b3 b5 a l.length c ({ T2 with proto:=(L1 l N2).text }) (N2+1)++h) ?_ Su Sb ⟨o,{ T2 with proto:=(L1 l N2).text },N2+1,⟨hM,(hT _ (List.mem_of_getElem? h2)).2⟩,rfl,rfl⟩);exact Su;have d65:((o&&!nmB l N)&&decide ((N2:Int)<l.length)&&next l N2 1 (L1 l N2).text)=false:=c65;have hM:=c1z hP hN c38 ho hNN hN2 hT2 d65;refine V9 (h':=FL b1 b2 b3 b5 a l.length c T2 N2++h) (by rw[d65];rfl) ?_
 refine WC.skip (B4 [(7,.bool o)] (h'':=FL b1 b2 b3 b5 a l.length c T2 N2++h) ?_ Su Sb ⟨o,T2,N2,⟨hM,by rw[<-hT2];cases o;exact Nat.zero_le _;cases named l N;exact Nat.zero_le _;exact Nat.zero_le _⟩,rfl,rfl⟩);exact Su;refine V9 (h':=FL b1 b2 b3 b5 a l.length c ⟨0,d,0,[]⟩ n++h) (by rw[c38];rfl) ?_;refine kA1 ?_;refine I3 (Ev.tmp rfl) (E2 Ek Ek) (U2 b1 b2 b3 b5 a _ c l ⟨0,d,0,[]⟩ n 2 a3e h _ hs hn) Lb ?_;rintro _ _ ⟨rfl,rfl⟩;refine Z1 ?_;refine wc ?_ ?_<;>intro c73
 refine V9 (h':=FL b1 b2 b3 b5 a l.length c ⟨0,d,0,[]⟩ (n+1)++h) (by rw[c73];rfl) ?_;refine kA2 ?_;refine a1L (h':=FL b1 b2 b3 b5 a l.length c ⟨5,d,0,[]⟩ (n+1)++h) rfl ?_;refine WL.nil (B4 [(7,.bool true)] (h'':=FL b1 b2 b3 b5 a l.length c (⟨5,d,0,[]⟩) (n+1)++h) ?_ Su Sb ⟨true,⟨5,d,0,[]⟩,n+1,⟨b3W hP hN c38 c73,Nat.zero_le _⟩,rfl,rfl⟩);exact Su;refine V9 (h':=FL b1 b2 b3 b5 a l.length c ⟨0,d,0,[]⟩ n++h) (by rw[c73];rfl) ?_;refine WC.skip (B4 [(7,.bool true)] (h'':=FL b1 b2 b3 b5 a l.length c (⟨0,d,0,[]⟩) n++h) ?_ Su Sb ⟨true,⟨0,d,0,[]⟩,n,⟨b8k hP hN c38 c73,Nat.zero_le _⟩,rfl,rfl⟩);exact Su;rintro _ _ ⟨okB,t,nB,⟨hM,hpl⟩,rfl,rfl⟩;refine B2 rfl ?_;refine kA3 ?_;refine zG (λ_=>pA a8H) ?_;refine A4 (GU.f rfl rfl) (λhc=>⟨Ef,(E1 (Eg hc)),may_ct t _ _ hg hpl⟩) Lb ?_;refine Z2 ?_;refine wc ?_ ?_<;>intro c83
 have hF:=b4N hM c83;refine Z4 ?_;refine WC.ret (b0V (h':=h) (.inl rfl) rfl (G4 a8H rfl rfl rfl Me rfl) (a0z uu3 rfl rfl Me rfl) (RV.tmp rfl) Vl Sb ?_);exact⟨by rw[hF];rfl,rfl⟩;have hF:=b1u hM c83;refine WC.skip (kp [2,3] ?_);refine jE ?_;refine WC.take (r:=.pt b2 (.cells (I7 t).toArray 36 (0,0))) De ?_;refine F3 [0,2] (.op 1 (.op 0 (.op 2 .nil))) [3,4] _ [.pt b2 (.cells (I7 t).toArray 36 (0,0))] C4 (λ_ _ _ _ _ h=>h) [] (by kernel_rfl) ?_;refine kA1 ?_;refine b6x rfl rfl (λfr=>W6 a8H rfl rfl Et (List.mem_append_right _ Me) rfl) Lb ?_;refine SR.store rfl rfl rfl Et Et rfl rfl rfl rfl Up ?_;refine SR.nil rfl rfl ?_;refine Z2 ?_;refine WC.ret (b0V (h':=h) (.inl rfl) rfl (G4 a8H rfl rfl rfl Me rfl) (a0z uu3 rfl rfl Me rfl) (RV.tmp rfl) Vl Sb ?_);exact⟨by rw[hF];rfl,rfl⟩
end
end Go.Proofs.YtkgfanibfkdbfaaGreatDoor.Ty9
namespace Go.Proofs.YtkgfanibfkdbfaaGreatDoor
open Go.Proofs.Tryz
section
open Go.Eng Go.Xp Go
open Go.Lx (encB encB_len)
theorem b7O(x:Ex):∀(y:Ex)(h:List Res)(m:View),TOk m h x->TOk m h y->CT prog 151 [exV x,exV y] h m (A7 h (.bool (E5 x y))):=by
 refine Ex.ind (p:=λx=>∀(y:Ex)(h:List Res)(m:View),TOk m h x->TOk m h y->CT prog 151 [exV x,exV y] h m (A7 h (.bool (E5 x y)))) (λx ih y h m hx hy=>?_) x;have r1:=hx.rd;have r2:=hy.rd;have mx:=r1.mx;have kx:=r1.le;have he:=a6V x y;refine cB [2,3,4,5,47,50,51,52,65] func151 λ_=>?_;refine xX λb2=>?_
 refine xX λb3=>?_;refine ZZ [1,12] ?_;refine a8L ?_;refine kA7 ?_;refine zG (λhc=>S2 (Eg hc) (Eg hc)) ?_;refine Z10 ?_;refine wc ?_ ?_<;>intro c47
 replace c47:a9y x y=true:=c47;rw[c47]at he;refine Z1 ?_;refine wT h ?_;exact⟨by rw[he];rfl,rfl⟩;replace c47:a9y x y=false:=c47;rw[c47]at he;have hl:x.l.length=y.l.length:=by unfold a9y at c47;simp only[Bool.or_eq_false_iff,bne_eq_false_iff_eq]at c47;omega
 refine ZZ [0,4,0] ?_;refine B1 [2,3,50] rfl (λμ F' h'=>∃k:Nat,(k<=x.l.length/\E5 x y=a1R (x.l.drop k) (y.l.drop k))/\x.l.length-k=μ/\F'=[(51,.int .i64 k)]/\.pt b3 (.cells (exE y).toArray 28 (0,0))::.pt b2 (.cells (exE x).toArray 28 (0,0))::h=h') (x.l.length-0) [(51,.int .i64 0)] (h0:=.pt b3 (.cells (exE y).toArray 28 (0,0))::.pt b2 (.cells (exE x).toArray 28 (0,0))::h) ?_ Sb ⟨0,⟨by omega,by rw[he];rfl⟩,rfl,rfl,rfl⟩ ?_;exact Su;rintro _ _ _ ⟨k,⟨hk,hJ⟩,rfl,rfl,rfl⟩;refine B2 rfl ?_;have q1:Rd m (.pt b3 (.cells (exE y).toArray 28 (0,0))::.pt b2 (.cells (exE x).toArray 28 (0,0))::h) x.a x.l.length x.c 6 (fl exE x.l):=r1.mono Vl Sb;have q2:Rd m (.pt b3 (.cells (exE y).toArray 28 (0,0))::.pt b2 (.cells (exE x).toArray 28 (0,0))::h) y.a y.l.length y.c 6 (fl exE y.l):=r2.mono Vl Sb;refine Z1 ?_;refine wD ?_ ?_<;>intro c52
 obtain⟨u,hu⟩:=A5 (l:=x.l) (k:=k) (by omega);obtain⟨v,hv⟩:=A5 (l:=y.l) (k:=k) (by omega);rw[b5f hu hv]at hJ;have mu:=List.mem_of_getElem? hu;have mv:=List.mem_of_getElem? hv;refine ZZ [0,2,0] ?_;refine dS [] (.op 0 (.op 1 (.op 2 (.op 3 (.op 4 (.op 5 (.op 6 (.op 7 (.op 8 (.op 9 .nil)))))))))) [10,11] C4 ?_;refine b7f ?_;refine SR.nil rfl rfl ?_;refine xf (E2 Et Et) (ih u mu v _ _ ((hx.part mu).mono Sb) ((hy.part mv).mono Sb)) ?_;refine Z1 ?_;refine wc ?_ ?_<;>intro c65
 have d65:E5 u v=false:=by simpa using c65
 rw[d65]at hJ;refine Z1 ?_;refine wT h ?_;exact⟨by rw[hJ];rfl,rfl⟩;have d65:E5 u v=true:=by simpa using c65
 rw[d65]at hJ;refine ZZ [0,2] ?_;refine WL.nil (A6 (x.l.length-(k+1)) [(51,.int .i64 (k+1))] (h'':=.pt b3 (.cells (exE y).toArray 28 (0,0))::.pt b2 (.cells (exE x).toArray 28 (0,0))::h) (by omega) ?_ Su Sb ⟨k+1,⟨by omega,by rw[hJ];rfl⟩,rfl,rfl,rfl⟩);exact Su;rw[List.drop_eq_nil_of_le (by omega)]at hJ;refine ZZ [0,1,0] ?_;refine wT h ?_;exact⟨by rw[hJ];rfl,rfl⟩
theorem a1p(x:Ex):∀(y:Ex)(h:List Res)(m:View),TOk m h x->TOk m h y->CT prog 26 [exV x,exV y] h m (A7 h (.bool (E5 x y))):=by
 refine Ex.ind (p:=λx=>∀(y:Ex)(h:List Res)(m:View),TOk m h x->TOk m h y->CT prog 26 [exV x,exV y] h m (A7 h (.bool (E5 x y)))) (λx ih y h m hx hy=>?_) x;have r1:=hx.rd;have r2:=hy.rd;have mx:=r1.mx;have kx:=r1.le;have he:=a6V x y;refine cB [2,3,4,5,47,52,66] func26 λ_=>?_;refine xX λb2=>?_
 refine xX λb3=>?_;refine ZZ [1,12] ?_;refine a8L ?_;refine kA7 ?_;refine zG (λhc=>S2 (Eg hc) (Eg hc)) ?_;refine Z10 ?_;refine wc ?_ ?_<;>intro c47
 replace c47:a9y x y=true:=c47;rw[c47]at he;refine Z1 ?_;refine wT h ?_;exact⟨by rw[he];rfl,rfl⟩;replace c47:a9y x y=false:=c47;rw[c47]at he;have hl:x.l.length=y.l.length:=by unfold a9y at c47;simp only[Bool.or_eq_false_iff,bne_eq_false_iff_eq]at c47;omega
 refine ZZ [0,1,0] ?_;refine B1 [2,3] rfl (λμ F' h'=>∃k:Nat,(k<=x.l.length/\E5 x y=a1R (x.l.drop k) (y.l.drop k))/\x.l.length-k=μ/\F'=[(5,.int .i64 k)]/\.pt b3 (.cells (exE y).toArray 28 (0,0))::.pt b2 (.cells (exE x).toArray 28 (0,0))::h=h') (x.l.length-0) [(5,.int .i64 0)] (h0:=.pt b3 (.cells (exE y).toArray 28 (0,0))::.pt b2 (.cells (exE x).toArray 28 (0,0))::h) ?_ Sb ⟨0,⟨by omega,by rw[he];rfl⟩,rfl,rfl,rfl⟩ ?_;exact Su;rintro _ _ _ ⟨k,⟨hk,hJ⟩,rfl,rfl,rfl⟩;refine B2 rfl ?_;have q1:Rd m (.pt b3 (.cells (exE y).toArray 28 (0,0))::.pt b2 (.cells (exE x).toArray 28 (0,0))::h) x.a x.l.length x.c 6 (fl exE x.l):=r1.mono Vl Sb;have q2:Rd m (.pt b3 (.cells (exE y).toArray 28 (0,0))::.pt b2 (.cells (exE x).toArray 28 (0,0))::h) y.a y.l.length y.c 6 (fl exE y.l):=r2.mono Vl Sb;refine Z5 ?_;refine wD ?_ ?_<;>intro c52
 obtain⟨u,hu⟩:=A5 (l:=x.l) (k:=k) (by omega);obtain⟨v,hv⟩:=A5 (l:=y.l) (k:=k) (by omega);rw[b5f hu hv]at hJ;have mu:=List.mem_of_getElem? hu;have mv:=List.mem_of_getElem? hv;refine Z0 ?_;refine dS [] (.op 0 (.op 1 (.op 2 (.op 3 (.op 4 (.op 5 (.op 6 (.op 7 (.op 8 (.op 9 .nil)))))))))) [10,11] C4 ?_;refine b7f ?_;refine SR.nil rfl rfl ?_;refine xf (E2 Et Et) (ih u mu v _ _ ((hx.part mu).mono Sb) ((hy.part mv).mono Sb)) ?_;refine Z1 ?_;refine wc ?_ ?_<;>intro c66
 have d65:E5 u v=false:=by simpa using c66
 rw[d65]at hJ;refine Z1 ?_;refine wT h ?_;exact⟨by rw[hJ];rfl,rfl⟩;have d65:E5 u v=true:=by simpa using c66
 rw[d65]at hJ;refine ZZ [0,3] ?_;refine WL.nil (A6 (x.l.length-(k+1)) [(5,.int .i64 (k+1))] (h'':=.pt b3 (.cells (exE y).toArray 28 (0,0))::.pt b2 (.cells (exE x).toArray 28 (0,0))::h) (by omega) ?_ Su Sb ⟨k+1,⟨by omega,by rw[hJ];rfl⟩,rfl,rfl,rfl⟩);exact Su;rw[List.drop_eq_nil_of_le (by omega)]at hJ;refine ZZ [0,1,0] ?_;refine wT h ?_;exact⟨by rw[hJ];rfl,rfl⟩
end
section
open Go.Eng Go.Pc Go
open Go.Xp hiding B C9
open Go.Ty (Ty Vr eqT tyV I7 PrOk VOk prL encV D2 M8 D3)
open Go.Lx (encB encB_len)
theorem a81(lo hi n:Int)(h:List Res)(m:View):CT prog 133 [.agg #[.int .i64 lo,.int .i64 hi],.int .i64 n] h m (A7 h (.bool (a3j lo hi n))):=by
 refine cB [1,2,4] func133 λ_=>?_;refine xX λb2=>?_
 refine ZZ [1,11,0] ?_;refine wT h ?_;exact⟨rfl,rfl⟩
theorem c2R(q:FuncId)(cap:List Value)(pr:Ex->Bool)(a:Option Addr)(k c:Nat)(l:List Ex)(h:List Res)(m:View)(hq:∀x∈l,CT prog q ([exV x]++cap) h m (A7 h (.bool (pr x))))(hs:Rd m h a k c 6 (fl exE l)) :
 CT prog 291 [.slice a k c,.func (.func q) #[] cap.toArray] h m (A7 h (.int .i64 (Go.Ty.idxF pr l 0))):=by
 have hl:=hs.lenF a1h (by decide);have hmx:=hs.mx;have hle:=hs.le;refine cB [0,1,4,5,7,8,9,16] func291 λ_=>?_;refine ZZ [1,3,0] ?_;refine B1 [0,1,7] rfl (λμ F' h'=>∃j:Nat,(j<=k/\Go.Ty.idxF pr l 0=Go.Ty.idxF pr (l.drop j) j)/\k-j=μ/\F'=[(8,.int .i64 j)]/\h=h') (k-0) [(8,.int .i64 0)] (h0:=h) ?_ Sb ⟨0,⟨by omega,rfl⟩,rfl,rfl,rfl⟩ ?_;exact Su;rintro _ _ _ ⟨j,⟨hk,hJ⟩,rfl,rfl,rfl⟩;refine B2 rfl ?_;refine Z1 ?_;refine wD ?_ ?_<;>intro c9
 obtain⟨x,hx⟩:=A5 (l:=l) (k:=j) (by omega);rw[Go.Ty.idxF_drop pr hx]at hJ;refine ZZ [0,2,5] ?_;refine M6 (Ev.tmp rfl) (E1 (Ev.tmp rfl)) (hq x (List.mem_of_getElem? hx)) Lb ?_;refine Z0 ?_;refine wc ?_ ?_<;>intro c16
 rw[c16]at hJ;refine Z2 ?_;refine wT h ?_;exact⟨by rw[hJ];rfl,rfl⟩;rw[c16]at hJ;refine ZZ [0,2] ?_;refine WL.nil (A6 (k-(j+1)) [(8,.int .i64 (j+1))] (h'':=h) (by omega) ?_ Su Sb ⟨j+1,⟨by omega,by simpa using hJ⟩,rfl,rfl,rfl⟩);exact Su;rw[List.drop_eq_nil_of_le (by omega)]at hJ;refine ZZ [0,1,0] ?_;refine wT h ?_;exact⟨by rw[hJ];rfl,rfl⟩
theorem c3M(q:FuncId)(cap:List Value)(pr:Ex->Bool)(a:Option Addr)(k c:Nat)(l:List Ex)(h:List Res)(m:View)(hq:∀x∈l,CT prog q ([exV x]++cap) h m (A7 h (.bool (pr x))))(hs:Rd m h a k c 6 (fl exE l)) :
 CT prog 229 [.slice a k c,.func (.func q) #[] cap.toArray] h m (A7 h (.bool (l.any pr))):=by
 refine cB [0,1,4] func229 λ_=>?_;refine ZZ [1,2] ?_;refine xf (E2 Et Et) (c2R q cap pr _ _ _ l _ _ hq hs) ?_;refine Z2 ?_;refine wT h ?_;exact⟨congrArg Value.bool (Go.Ty.idxF_any pr l 0 (by decide)),rfl⟩
theorem b6j(q0:FuncId)(c0:List Value)(b:Nat)(x:Ex)(v:Bool)(h:List Res)(m:View)(hb:Res.pt b (.cells [.func (.func q0) #[] c0.toArray].toArray 148 (0,0))∈h)(hq:∀h',h.Sublist h'->CT prog q0 ([exV x]++c0) h' m (A7 h' (.bool v))) :
 CT prog 230 [exV x,.pointer (some ⟨b,0,none⟩)] h m (A7 h (.bool (!v))):=by
 refine cB [1,2,3] func230 λ_=>?_;refine xX λb2=>?_
 refine Z1 ?_;refine xG (E9 c6B rfl Et (List.Mem.tail _ hb) rfl) ?_;refine kA1 ?_;refine M6 (Ev.tmp rfl) (E1 (Ev.tmp rfl)) (hq _ Sb) Lb ?_;refine Z2 ?_;refine wT h ?_;exact⟨rfl,rfl⟩
theorem a5T(q0:FuncId)(c0:List Value)(pr:Ex->Bool)(lo hi:Int)(a:Option Addr)(k c:Nat)(l:List Ex)(h:List Res)(m:View)(hq:∀x∈l,∀h',h.Sublist h'->CT prog q0 ([exV x]++c0) h' m (A7 h' (.bool (pr x))))(hs:Rd m h a k c 6 (fl exE l)) :
 CT prog 138 [.slice a k c,.agg #[.int .i64 lo,.int .i64 hi],.func (.func q0) #[] c0.toArray] h m (A7 h (.bool (E7 l lo hi pr))):=by
 have hl:=hs.lenF a1h (by decide);subst hl;refine cB [0,4,5,6] func138 λ_=>?_;refine xX λb4=>?_
 refine xX λb5=>?_;refine ZZ [1,3] ?_;refine xf (E2 Et Et) (a81 lo hi l.length _ _) ?_;refine kA2 ?_;refine zG (λ_=>PO.makeFunc Evs.nil (E1 Et)) ?_;refine A4 (GU.t rfl rfl) (λhc=>⟨Ef,(E2 (Eg hc) (Eg hc)),c3M 230 [.pointer (some ⟨b5,0,none⟩)] (λx=>!pr x) _ _ _ l _ _ (λx hx=>b6j q0 c0 b5 x (pr x) _ _ Me (λh' hh=>hq x hx h' (List.Sublist.trans Sb hh))) (hs.mono Vl Sb)⟩) Lb ?_;refine Z3 ?_;refine wT h ?_;exact⟨rfl,rfl⟩
theorem c0W(q:FuncId)(cap:List Value)(pr:Gu->Bool)(a:Option Addr)(k c:Nat)(l:List Gu)(h:List Res)(m:View)(hq:∀x∈l,CT prog q ([guV x]++cap) h m (A7 h (.bool (pr x))))(hs:Rd m h a k c 23 (fl guE l)) :
 CT prog 290 [.slice a k c,.func (.func q) #[] cap.toArray] h m (A7 h (.int .i64 (Go.Ty.idxF pr l 0))):=by
 have hl:=hs.lenF a1J (by decide);have hmx:=hs.mx;have hle:=hs.le;refine cB [0,1,4,5,7,8,9,16] func290 λ_=>?_;refine ZZ [1,3,0] ?_;refine B1 [0,1,7] rfl (λμ F' h'=>∃j:Nat,(j<=k/\Go.Ty.idxF pr l 0=Go.Ty.idxF pr (l.drop j) j)/\k-j=μ/\F'=[(8,.int .i64 j)]/\h=h') (k-0) [(8,.int .i64 0)] (h0:=h) ?_ Sb ⟨0,⟨by omega,rfl⟩,rfl,rfl,rfl⟩ ?_;exact Su;rintro _ _ _ ⟨j,⟨hk,hJ⟩,rfl,rfl,rfl⟩;refine B2 rfl ?_;refine Z1 ?_;refine wD ?_ ?_<;>intro c9
 obtain⟨x,hx⟩:=A5 (l:=l) (k:=j) (by omega);rw[Go.Ty.idxF_drop pr hx]at hJ;refine ZZ [0,2,5] ?_;refine M6 (Ev.tmp rfl) (E1 (Ev.tmp rfl)) (hq x (List.mem_of_getElem? hx)) Lb ?_;refine Z0 ?_;refine wc ?_ ?_<;>intro c16
 rw[c16]at hJ;refine Z2 ?_;refine wT h ?_;exact⟨by rw[hJ];rfl,rfl⟩;rw[c16]at hJ;refine ZZ [0,2] ?_;refine WL.nil (A6 (k-(j+1)) [(8,.int .i64 (j+1))] (h'':=h) (by omega) ?_ Su Sb ⟨j+1,⟨by omega,by simpa using hJ⟩,rfl,rfl,rfl⟩);exact Su;rw[List.drop_eq_nil_of_le (by omega)]at hJ;refine ZZ [0,1,0] ?_;refine wT h ?_;exact⟨by rw[hJ];rfl,rfl⟩
theorem c1X(q:FuncId)(cap:List Value)(pr:Gu->Bool)(a:Option Addr)(k c:Nat)(l:List Gu)(h:List Res)(m:View)(hq:∀x∈l,CT prog q ([guV x]++cap) h m (A7 h (.bool (pr x))))(hs:Rd m h a k c 23 (fl guE l)) :
 CT prog 226 [.slice a k c,.func (.func q) #[] cap.toArray] h m (A7 h (.bool (l.any pr))):=by
 refine cB [0,1,4] func226 λ_=>?_;refine ZZ [1,2] ?_;refine xf (E2 Et Et) (c0W q cap pr _ _ _ l _ _ hq hs) ?_;refine Z2 ?_;refine wT h ?_;exact⟨congrArg Value.bool (Go.Ty.idxF_any pr l 0 (by decide)),rfl⟩
theorem b6C(q0:FuncId)(c0:List Value)(b:Nat)(x:Gu)(v:Bool)(h:List Res)(m:View)(hb:Res.pt b (.cells [.func (.func q0) #[] c0.toArray].toArray 196 (0,0))∈h)(hq:∀h',h.Sublist h'->CT prog q0 ([guV x]++c0) h' m (A7 h' (.bool v))) :
 CT prog 227 [guV x,.pointer (some ⟨b,0,none⟩)] h m (A7 h (.bool (!v))):=by
 refine cB [1,2,3] func227 λ_=>?_;refine xX λb2=>?_
 refine Z1 ?_;refine xG (E9 c6z rfl Et (List.Mem.tail _ hb) rfl) ?_;refine kA1 ?_;refine M6 (Ev.tmp rfl) (E1 (Ev.tmp rfl)) (hq _ Sb) Lb ?_;refine Z2 ?_;refine wT h ?_;exact⟨rfl,rfl⟩
theorem c0g(q0:FuncId)(c0:List Value)(pr:Gu->Bool)(lo hi:Int)(a:Option Addr)(k c:Nat)(l:List Gu)(h:List Res)(m:View)(hq:∀x∈l,∀h',h.Sublist h'->CT prog q0 ([guV x]++c0) h' m (A7 h' (.bool (pr x))))(hs:Rd m h a k c 23 (fl guE l)) :
 CT prog 134 [.slice a k c,.agg #[.int .i64 lo,.int .i64 hi],.func (.func q0) #[] c0.toArray] h m (A7 h (.bool (E7 l lo hi pr))):=by
 have hl:=hs.lenF a1J (by decide);subst hl;refine cB [0,4,5,6] func134 λ_=>?_;refine xX λb4=>?_
 refine xX λb5=>?_;refine ZZ [1,3] ?_;refine xf (E2 Et Et) (a81 lo hi l.length _ _) ?_;refine kA2 ?_;refine zG (λ_=>PO.makeFunc Evs.nil (E1 Et)) ?_;refine A4 (GU.t rfl rfl) (λhc=>⟨Ef,(E2 (Eg hc) (Eg hc)),c1X 227 [.pointer (some ⟨b5,0,none⟩)] (λx=>!pr x) _ _ _ l _ _ (λx hx=>b6C q0 c0 b5 x (pr x) _ _ Me (λh' hh=>hq x hx h' (List.Sublist.trans Sb hh))) (hs.mono Vl Sb)⟩) Lb ?_;refine Z3 ?_;refine wT h ?_;exact⟨rfl,rfl⟩
theorem c1P(q:FuncId)(cap:List Value)(pr:Int->Bool)(a:Option Addr)(k c:Nat)(l:List Int)(h:List Res)(m:View)(hq:∀x∈l,CT prog q ([.int .i64 x]++cap) h m (A7 h (.bool (pr x))))(hs:Rd m h a k c 1 (fl a3G l)) :
 CT prog 293 [.slice a k c,.func (.func q) #[] cap.toArray] h m (A7 h (.int .i64 (Go.Ty.idxF pr l 0))):=by
 have hl:=hs.lenF a4a (by decide);have hmx:=hs.mx;have hle:=hs.le;refine cB [0,1,4,5,7,8,9,16] func293 λ_=>?_;refine ZZ [1,3,0] ?_;refine B1 [0,1,7] rfl (λμ F' h'=>∃j:Nat,(j<=k/\Go.Ty.idxF pr l 0=Go.Ty.idxF pr (l.drop j) j)/\k-j=μ/\F'=[(8,.int .i64 j)]/\h=h') (k-0) [(8,.int .i64 0)] (h0:=h) ?_ Sb ⟨0,⟨by omega,rfl⟩,rfl,rfl,rfl⟩ ?_;exact Su;rintro _ _ _ ⟨j,⟨hk,hJ⟩,rfl,rfl,rfl⟩;refine B2 rfl ?_;refine Z1 ?_;refine wD ?_ ?_<;>intro c9
 obtain⟨x,hx⟩:=A5 (l:=l) (k:=j) (by omega);rw[Go.Ty.idxF_drop pr hx]at hJ;refine ZZ [0,2,5] ?_;refine M6 (Ev.tmp rfl) (E1 (Ev.tmp rfl)) (hq x (List.mem_of_getElem? hx)) Lb ?_;refine Z0 ?_;refine wc ?_ ?_<;>intro c16
 rw[c16]at hJ;refine Z2 ?_;refine wT h ?_;exact⟨by rw[hJ];rfl,rfl⟩;rw[c16]at hJ;refine ZZ [0,2] ?_;refine WL.nil (A6 (k-(j+1)) [(8,.int .i64 (j+1))] (h'':=h) (by omega) ?_ Su Sb ⟨j+1,⟨by omega,by simpa using hJ⟩,rfl,rfl,rfl⟩);exact Su;rw[List.drop_eq_nil_of_le (by omega)]at hJ;refine ZZ [0,1,0] ?_;refine wT h ?_;exact⟨by rw[hJ];rfl,rfl⟩
theorem c2E(q:FuncId)(cap:List Value)(pr:Int->Bool)(a:Option Addr)(k c:Nat)(l:List Int)(h:List Res)(m:View)(hq:∀x∈l,CT prog q ([.int .i64 x]++cap) h m (A7 h (.bool (pr x))))(hs:Rd m h a k c 1 (fl a3G l)) :
 CT prog 233 [.slice a k c,.func (.func q) #[] cap.toArray] h m (A7 h (.bool (l.any pr))):=by
 refine cB [0,1,4] func233 λ_=>?_;refine ZZ [1,2] ?_;refine xf (E2 Et Et) (c1P q cap pr _ _ _ l _ _ hq hs) ?_;refine Z2 ?_;refine wT h ?_;exact⟨congrArg Value.bool (Go.Ty.idxF_any pr l 0 (by decide)),rfl⟩
theorem b6w(q0:FuncId)(c0:List Value)(b:Nat)(x:Int)(v:Bool)(h:List Res)(m:View)(hb:Res.pt b (.cells [.func (.func q0) #[] c0.toArray].toArray 166 (0,0))∈h)(hq:∀h',h.Sublist h'->CT prog q0 ([.int .i64 x]++c0) h' m (A7 h' (.bool v))) :
 CT prog 234 [.int .i64 x,.pointer (some ⟨b,0,none⟩)] h m (A7 h (.bool (!v))):=by
 refine cB [0,1,3] func234 λ_=>?_;refine Z1 ?_;refine xG (E9 c6F rfl Et hb rfl) ?_;refine kA1 ?_;refine M6 (Ev.tmp rfl) (E1 (Ev.tmp rfl)) (hq _ Sb) Lb ?_;refine Z2 ?_;refine wT h ?_;exact⟨rfl,rfl⟩
theorem b9l(q0:FuncId)(c0:List Value)(pr:Int->Bool)(lo hi:Int)(a:Option Addr)(k c:Nat)(l:List Int)(h:List Res)(m:View)(hq:∀x∈l,∀h',h.Sublist h'->CT prog q0 ([.int .i64 x]++c0) h' m (A7 h' (.bool (pr x))))(hs:Rd m h a k c 1 (fl a3G l)) :
 CT prog 140 [.slice a k c,.agg #[.int .i64 lo,.int .i64 hi],.func (.func q0) #[] c0.toArray] h m (A7 h (.bool (E7 l lo hi pr))):=by
 have hl:=hs.lenF a4a (by decide);subst hl;refine cB [0,4,5,6] func140 λ_=>?_;refine xX λb4=>?_
 refine xX λb5=>?_;refine ZZ [1,3] ?_;refine xf (E2 Et Et) (a81 lo hi l.length _ _) ?_;refine kA2 ?_;refine zG (λ_=>PO.makeFunc Evs.nil (E1 Et)) ?_;refine A4 (GU.t rfl rfl) (λhc=>⟨Ef,(E2 (Eg hc) (Eg hc)),c2E 234 [.pointer (some ⟨b5,0,none⟩)] (λx=>!pr x) _ _ _ l _ _ (λx hx=>b6w q0 c0 b5 x (pr x) _ _ Me (λh' hh=>hq x hx h' (List.Sublist.trans Sb hh))) (hs.mono Vl Sb)⟩) Lb ?_;refine Z3 ?_;refine wT h ?_;exact⟨rfl,rfl⟩
theorem c3S(q:FuncId)(cap:List Value)(pr:Fo->Bool)(a:Option Addr)(k c:Nat)(l:List Fo)(h:List Res)(m:View)(hq:∀x∈l,CT prog q ([foV x]++cap) h m (A7 h (.bool (pr x))))(hs:Rd m h a k c 6 (fl foE l)) :
 CT prog 346 [.slice a k c,.func (.func q) #[] cap.toArray] h m (A7 h (.int .i64 (Go.Ty.idxF pr l 0))):=by
 have hl:=hs.lenF a2w (by decide);have hmx:=hs.mx;have hle:=hs.le;refine cB [0,1,4,5,7,8,9,16] func346 λ_=>?_;refine ZZ [1,3,0] ?_;refine B1 [0,1,7] rfl (λμ F' h'=>∃j:Nat,(j<=k/\Go.Ty.idxF pr l 0=Go.Ty.idxF pr (l.drop j) j)/\k-j=μ/\F'=[(8,.int .i64 j)]/\h=h') (k-0) [(8,.int .i64 0)] (h0:=h) ?_ Sb ⟨0,⟨by omega,rfl⟩,rfl,rfl,rfl⟩ ?_;exact Su;rintro _ _ _ ⟨j,⟨hk,hJ⟩,rfl,rfl,rfl⟩;refine B2 rfl ?_;refine Z1 ?_;refine wD ?_ ?_<;>intro c9
 obtain⟨x,hx⟩:=A5 (l:=l) (k:=j) (by omega);rw[Go.Ty.idxF_drop pr hx]at hJ;refine ZZ [0,2,5] ?_;refine M6 (Ev.tmp rfl) (E1 (Ev.tmp rfl)) (hq x (List.mem_of_getElem? hx)) Lb ?_;refine Z0 ?_;refine wc ?_ ?_<;>intro c16
 rw[c16]at hJ;refine Z2 ?_;refine wT h ?_;exact⟨by rw[hJ];rfl,rfl⟩;rw[c16]at hJ;refine ZZ [0,2] ?_;refine WL.nil (A6 (k-(j+1)) [(8,.int .i64 (j+1))] (h'':=h) (by omega) ?_ Su Sb ⟨j+1,⟨by omega,by simpa using hJ⟩,rfl,rfl,rfl⟩);exact Su;rw[List.drop_eq_nil_of_le (by omega)]at hJ;refine ZZ [0,1,0] ?_;refine wT h ?_;exact⟨by rw[hJ];rfl,rfl⟩
theorem c3e(q:FuncId)(cap:List Value)(pr:Fo->Bool)(a:Option Addr)(k c:Nat)(l:List Fo)(h:List Res)(m:View)(hq:∀x∈l,CT prog q ([foV x]++cap) h m (A7 h (.bool (pr x))))(hs:Rd m h a k c 6 (fl foE l)) :
 CT prog 298 [.slice a k c,.func (.func q) #[] cap.toArray] h m (A7 h (.bool (l.any pr))):=by
 refine cB [0,1,4] func298 λ_=>?_;refine ZZ [1,2] ?_;refine xf (E2 Et Et) (c3S q cap pr _ _ _ l _ _ hq hs) ?_;refine Z2 ?_;refine wT h ?_;exact⟨congrArg Value.bool (Go.Ty.idxF_any pr l 0 (by decide)),rfl⟩
theorem b6d(q0:FuncId)(c0:List Value)(b:Nat)(x:Fo)(v:Bool)(h:List Res)(m:View)(hb:Res.pt b (.cells [.func (.func q0) #[] c0.toArray].toArray 247 (0,0))∈h)(hq:∀h',h.Sublist h'->CT prog q0 ([foV x]++c0) h' m (A7 h' (.bool v))) :
 CT prog 299 [foV x,.pointer (some ⟨b,0,none⟩)] h m (A7 h (.bool (!v))):=by
 refine cB [1,2,3] func299 λ_=>?_;refine xX λb2=>?_
 refine Z1 ?_;refine xG (E9 c6T rfl Et (List.Mem.tail _ hb) rfl) ?_;refine kA1 ?_;refine M6 (Ev.tmp rfl) (E1 (Ev.tmp rfl)) (hq _ Sb) Lb ?_;refine Z2 ?_;refine wT h ?_;exact⟨rfl,rfl⟩
theorem c0h(q0:FuncId)(c0:List Value)(pr:Fo->Bool)(lo hi:Int)(a:Option Addr)(k c:Nat)(l:List Fo)(h:List Res)(m:View)(hq:∀x∈l,∀h',h.Sublist h'->CT prog q0 ([foV x]++c0) h' m (A7 h' (.bool (pr x))))(hs:Rd m h a k c 6 (fl foE l)) :
 CT prog 238 [.slice a k c,.agg #[.int .i64 lo,.int .i64 hi],.func (.func q0) #[] c0.toArray] h m (A7 h (.bool (E7 l lo hi pr))):=by
 have hl:=hs.lenF a2w (by decide);subst hl;refine cB [0,4,5,6] func238 λ_=>?_;refine xX λb4=>?_
 refine xX λb5=>?_;refine ZZ [1,3] ?_;refine xf (E2 Et Et) (a81 lo hi l.length _ _) ?_;refine kA2 ?_;refine zG (λ_=>PO.makeFunc Evs.nil (E1 Et)) ?_;refine A4 (GU.t rfl rfl) (λhc=>⟨Ef,(E2 (Eg hc) (Eg hc)),c3e 299 [.pointer (some ⟨b5,0,none⟩)] (λx=>!pr x) _ _ _ l _ _ (λx hx=>b6d q0 c0 b5 x (pr x) _ _ Me (λh' hh=>hq x hx h' (List.Sublist.trans Sb hh))) (hs.mono Vl Sb)⟩) Lb ?_;refine Z3 ?_;refine wT h ?_;exact⟨rfl,rfl⟩
theorem c2H(q:FuncId)(cap:List Value)(pr:B->Bool)(a:Option Addr)(k c:Nat)(l:List B)(h:List Res)(m:View)(hq:∀x∈l,CT prog q ([str x]++cap) h m (A7 h (.bool (pr x))))(hs:Rd m h a k c 1 (fl encB l)) :
 CT prog 347 [.slice a k c,.func (.func q) #[] cap.toArray] h m (A7 h (.int .i64 (Go.Ty.idxF pr l 0))):=by
 have hl:=hs.lenF encB_len (by decide);have hmx:=hs.mx;have hle:=hs.le;refine cB [0,1,4,5,7,8,9,16] func347 λ_=>?_;refine ZZ [1,3,0] ?_;refine B1 [0,1,7] rfl (λμ F' h'=>∃j:Nat,(j<=k/\Go.Ty.idxF pr l 0=Go.Ty.idxF pr (l.drop j) j)/\k-j=μ/\F'=[(8,.int .i64 j)]/\h=h') (k-0) [(8,.int .i64 0)] (h0:=h) ?_ Sb ⟨0,⟨by omega,rfl⟩,rfl,rfl,rfl⟩ ?_;exact Su;rintro _ _ _ ⟨j,⟨hk,hJ⟩,rfl,rfl,rfl⟩;refine B2 rfl ?_;refine Z1 ?_;refine wD ?_ ?_<;>intro c9
 obtain⟨x,hx⟩:=A5 (l:=l) (k:=j) (by omega);rw[Go.Ty.idxF_drop pr hx]at hJ;refine ZZ [0,2,5] ?_;refine M6 (Ev.tmp rfl) (E1 (Ev.tmp rfl)) (hq x (List.mem_of_getElem? hx)) Lb ?_;refine Z0 ?_;refine wc ?_ ?_<;>intro c16
 rw[c16]at hJ;refine Z2 ?_;refine wT h ?_;exact⟨by rw[hJ];rfl,rfl⟩;rw[c16]at hJ;refine ZZ [0,2] ?_;refine WL.nil (A6 (k-(j+1)) [(8,.int .i64 (j+1))] (h'':=h) (by omega) ?_ Su Sb ⟨j+1,⟨by omega,by simpa using hJ⟩,rfl,rfl,rfl⟩);exact Su;rw[List.drop_eq_nil_of_le (by omega)]at hJ;refine ZZ [0,1,0] ?_;refine wT h ?_;exact⟨by rw[hJ];rfl,rfl⟩
theorem c1O(q:FuncId)(cap:List Value)(pr:B->Bool)(a:Option Addr)(k c:Nat)(l:List B)(h:List Res)(m:View)(hq:∀x∈l,CT prog q ([str x]++cap) h m (A7 h (.bool (pr x))))(hs:Rd m h a k c 1 (fl encB l)) :
 CT prog 300 [.slice a k c,.func (.func q) #[] cap.toArray] h m (A7 h (.bool (l.any pr))):=by
 refine cB [0,1,4] func300 λ_=>?_;refine ZZ [1,2] ?_;refine xf (E2 Et Et) (c2H q cap pr _ _ _ l _ _ hq hs) ?_;refine Z2 ?_;refine wT h ?_;exact⟨congrArg Value.bool (Go.Ty.idxF_any pr l 0 (by decide)),rfl⟩
theorem b7y(q0:FuncId)(c0:List Value)(b:Nat)(x:B)(v:Bool)(h:List Res)(m:View)(hb:Res.pt b (.cells [.func (.func q0) #[] c0.toArray].toArray 102 (0,0))∈h)(hq:∀h',h.Sublist h'->CT prog q0 ([str x]++c0) h' m (A7 h' (.bool v))) :
 CT prog 301 [str x,.pointer (some ⟨b,0,none⟩)] h m (A7 h (.bool (!v))):=by
 refine cB [0,1,3] func301 λ_=>?_;refine Z1 ?_;refine xG (E9 c6U rfl Et hb rfl) ?_;refine kA1 ?_;refine M6 (Ev.tmp rfl) (E1 (Ev.tmp rfl)) (hq _ Sb) Lb ?_;refine Z2 ?_;refine wT h ?_;exact⟨rfl,rfl⟩
theorem b9Z(q0:FuncId)(c0:List Value)(pr:B->Bool)(lo hi:Int)(a:Option Addr)(k c:Nat)(l:List B)(h:List Res)(m:View)(hq:∀x∈l,∀h',h.Sublist h'->CT prog q0 ([str x]++c0) h' m (A7 h' (.bool (pr x))))(hs:Rd m h a k c 1 (fl encB l)) :
 CT prog 240 [.slice a k c,.agg #[.int .i64 lo,.int .i64 hi],.func (.func q0) #[] c0.toArray] h m (A7 h (.bool (E7 l lo hi pr))):=by
 have hl:=hs.lenF encB_len (by decide);subst hl;refine cB [0,4,5,6] func240 λ_=>?_;refine xX λb4=>?_
 refine xX λb5=>?_;refine ZZ [1,3] ?_;refine xf (E2 Et Et) (a81 lo hi l.length _ _) ?_;refine kA2 ?_;refine zG (λ_=>PO.makeFunc Evs.nil (E1 Et)) ?_;refine A4 (GU.t rfl rfl) (λhc=>⟨Ef,(E2 (Eg hc) (Eg hc)),c1O 301 [.pointer (some ⟨b5,0,none⟩)] (λx=>!pr x) _ _ _ l _ _ (λx hx=>b7y q0 c0 b5 x (pr x) _ _ Me (λh' hh=>hq x hx h' (List.Sublist.trans Sb hh))) (hs.mono Vl Sb)⟩) Lb ?_;refine Z3 ?_;refine wT h ?_;exact⟨rfl,rfl⟩
end
section
open Go.Eng Go.Pc Go
open Go.Xp hiding B C9
open Go.Ty (Ty Vr eqT tyV I7 PrOk VOk prL encV D2 M8 D3)
open Go.Lx (encB encB_len)
theorem a2F(u a z:Bool)(h:List Res)(m:View):CT prog 135 [.bool u,.bool a,.bool z] h m (A7 h (.bool (N7 u a z))):=by
 refine cB [0,1,2,6,7] func135 λ_=>?_;refine ZZ [1,1,0] ?_;refine wc ?_ ?_<;>intro c7
 refine Z2 ?_;refine wT h ?_;exact⟨by rw[c7];rfl,rfl⟩;refine ZZ [0,2,0] ?_;refine wT h ?_;exact⟨by rw[c7];rfl,rfl⟩
theorem a9f(m:View)(h:List Res):TOk m h A2:=.mk (Rd.nilF exE 6 m h) (λ_ hx=>by cases hx)
theorem a3n{m:View}{h:List Res}(e:Ex)(hT:TOk m h e):CT prog 79 [exV e] h m (A7 h (.bool (H4 e))):=by
 refine cB [1,2] func79 λ_=>?_;refine xX λb1=>?_
 refine ZZ [1,2] ?_;refine xf (E2 Et Et) (b7O e A2 _ _ (hT.mono Sb) (a9f _ _)) ?_;refine Z1 ?_;refine wT h ?_;exact⟨rfl,rfl⟩
theorem a5H{m:View}{h:List Res}(hg:Glob m)(e:Ex)(hE:EOk m h e):CT prog 137 [exV e] h m (A7 h (.bool (F5 e))):=by
 have hT:=hE.t;have hW:=hE.w;refine cB [1,2] func137 λ_=>?_;refine xX λb1=>?_
 refine ZZ [1,9] ?_;refine zG (λ_=>pA a2i) ?_;refine A4 (GU.t rfl rfl) (λhc=>⟨Ef,(E1 (Eg hc)),may_ct hg e _ (hT.mono Sb) hW⟩) Lb ?_;refine Z2 ?_;refine wT h ?_;exact⟨rfl,rfl⟩
theorem a7e(t:Ty)(h:List Res)(m:View)(hg:Glob m)(hs:t.proto.length<=9223372036854775807):CT prog 236 [tyV t] h m (A7 h (.bool (X3 t))):=by
 refine cB [1,2] func236 λ_=>?_;refine xX λb1=>?_
 refine ZZ [1,1] ?_;refine xf (E1 Et) (Ty9.may_ct t _ _ hg hs) ?_;refine Z11 ?_;refine wT h ?_;exact⟨rfl,rfl⟩
theorem c8k{m:View}{h:List Res}(hg:Glob m)(r:Rp)(hn:r.name.length<=Big)(hb:EOk m h r.base)(hcn:EOk m h r.count):CT prog 130 [rpV r] h m (A7 h (.bool (O6 r))):=by
 have hn2:r.name.length<=9223372036854775807:=Nat.le_trans hn (by decide);refine cB [1,2,5] func130 λ_=>?_;refine xX λb1=>?_
 refine ZZ [1,2] ?_;refine xG (H3 Et Ek) ?_;refine Z0 ?_;refine wc ?_ ?_<;>intro c5
 have hR:O6 r=(H4 r.base&&H4 r.count):=by unfold O6;rw[if_pos c5]
 refine kA2 ?_;refine xf (E1 Et) (a3n r.base (hb.t.mono Sb)) ?_;refine kA3 ?_;refine A4 (GU.t rfl rfl) (λhc=>⟨Ef,(E1 (Eg hc)),a3n r.count (hcn.t.mono Sb)⟩) Lb ?_;refine Z2 ?_;refine wT h ?_;exact⟨by rw[hR],rfl⟩;have hR:O6 r=(Go.Lx.name r.name&&F8 r.base&&F8 r.count):=by unfold O6;rw[if_neg (by rw[c5];decide)]
 refine ZZ [0,2] ?_;refine xf (E1 Et) (a1d r.name _ _ hg hn2) ?_;refine kA3 ?_;refine A4 (GU.t rfl rfl) (λhc=>⟨Ef,(E1 (Eg hc)),may_ct hg r.base _ (hb.t.mono Sb) hb.w⟩) Lb ?_;refine kA4 ?_;refine A4 (GU.t rfl rfl) (λhc=>⟨Ef,(E1 (Eg hc)),may_ct hg r.count _ (hcn.t.mono Sb) hcn.w⟩) Lb ?_;refine Z2 ?_;refine wT h ?_;exact⟨by rw[hR],rfl⟩
theorem c0s{m:View}{h:List Res}(hg:Glob m)(f:Fo)(hw:FoW f):CT prog 239 [foV f] h m (A7 h (.bool (foP f))):=by
 have hn2:f.name.length<=9223372036854775807:=Nat.le_trans hw.n (by decide);have hp2:f.ty.proto.length<=9223372036854775807:=Nat.le_trans hw.t.p (by decide);refine cB [1,2] func239 λ_=>?_;refine xX λb1=>?_
 refine ZZ [1,2] ?_;refine xf (E1 Et) (a1d f.name _ _ hg hn2) ?_;refine kA3 ?_;refine A4 (GU.t rfl rfl) (λhc=>⟨Ef,(E1 (Eg hc)),Ty9.may_ct f.ty _ _ hg hp2⟩) Lb ?_;refine kA8 ?_;refine A4 (a4P rfl rfl) (λhc=>⟨Ef,(E1 (Eg hc)),a7e f.ty _ _ hg hp2⟩) Lb ?_;refine zG (λhc=>S0 hc rfl rfl) ?_;refine Z2 ?_;refine wT h ?_;exact⟨rfl,rfl⟩
theorem c6n(v:Int)(a:Option Addr)(k c:Nat)(l:List Int)(h:List Res)(m:View)(hs:Rd m h a k c 1 (fl M8 l)) :
 CT prog 289 [.slice a k c,.int .u8 v] h m (A7 h (.int .i64 (Go.Ty.idxF (v==·) l 0))):=by
 have hl:=hs.lenF D3 (by decide);have hmx:=hs.mx;have hle:=hs.le;refine cB [0,1,4,5,7,8,9,16] func289 λ_=>?_;refine ZZ [1,3,0] ?_;refine B1 [0,1,7] rfl (λμ F' h'=>∃j:Nat,(j<=k/\Go.Ty.idxF (v==·) l 0=Go.Ty.idxF (v==·) (l.drop j) j)/\k-j=μ/\F'=[(8,.int .i64 j)]/\h=h') (k-0) [(8,.int .i64 0)] (h0:=h) ?_ Sb ⟨0,⟨by omega,rfl⟩,rfl,rfl,rfl⟩ ?_;exact Su;rintro _ _ _ ⟨j,⟨hk,hJ⟩,rfl,rfl,rfl⟩;refine B2 rfl ?_;refine Z1 ?_;refine wD ?_ ?_<;>intro c9
 obtain⟨x,hx⟩:=A5 (l:=l) (k:=j) (by omega);rw[Go.Ty.idxF_drop _ hx]at hJ;refine ZZ [0,2,6,0] ?_;refine wc ?_ ?_<;>intro c16
 replace c16:(v==x)=true:=c16;rw[c16]at hJ;refine Z2 ?_;refine wT h ?_;exact⟨by rw[hJ];rfl,rfl⟩;replace c16:(v==x)=false:=c16;rw[c16]at hJ;refine ZZ [0,2] ?_;refine WL.nil (A6 (k-(j+1)) [(8,.int .i64 (j+1))] (h'':=h) (by omega) ?_ Su Sb ⟨j+1,⟨by omega,by simpa using hJ⟩,rfl,rfl,rfl⟩);exact Su;rw[List.drop_eq_nil_of_le (by omega)]at hJ;refine ZZ [0,1,0] ?_;refine wT h ?_;exact⟨by rw[hJ];rfl,rfl⟩
theorem c5x(v:Int)(a:Option Addr)(k c:Nat)(l:List Int)(h:List Res)(m:View)(hs:Rd m h a k c 1 (fl M8 l)) :
 CT prog 225 [.slice a k c,.int .u8 v] h m (A7 h (.bool (l.any (v==·)))):=by
 refine cB [0,1,4] func225 λ_=>?_;refine ZZ [1,2] ?_;refine xf (E2 Et Et) (c6n v _ _ _ l _ _ hs) ?_;refine Z2 ?_;refine wT h ?_;exact⟨congrArg Value.bool (Go.Ty.idxF_any _ l 0 (by decide)),rfl⟩
theorem a6Q{m:View}{h:List Res}(b1:Nat)(g:Gu)(hb1:Res.pt b1 (.cells (guE g).toArray 100 (0,0))∈h)(a:Option Addr)(k c:Nat)(l:List Int)(hs:Rd m h a k c 1 (fl M8 l)) :
 CT prog 224 [.slice a k c,.pointer (some ⟨b1,0,none⟩)] h m (A7 h (.bool (l.any (g.k==·)))):=by
 refine cB [0,1,3] func224 λ_=>?_;refine ZZ [1,2] ?_;refine xG (E9 b8U rfl Et hb1 rfl) ?_;refine xf (E2 Et Et) (c5x g.k _ _ _ l _ _ hs) ?_;refine Z1 ?_;refine wT h ?_;exact⟨rfl,rfl⟩
theorem d0k(k:Int):([1,2,3,4]:List Int).any (k==·)=((k==1)||(k==2)||(k==3)||(k==4)):=by simp[Bool.or_assoc]
theorem c9h(k:Int):([3,4]:List Int).any (k==·)=((k==3)||(k==4)):=by simp
theorem c9g(k q:Int):([q]:List Int).any (k==·)=(k==q):=by simp
theorem b96{m:View}{h:List Res}(hg:Glob m)(g:Gu)(hO:GOk m h g):CT prog 132 [guV g] h m (A7 h (.bool (guP g))):=by
 have hn2:g.name.length<=9223372036854775807:=Nat.le_trans hO.n (by decide);have htr:=hO.tg.rd;have hvr:=hO.vl.rd;refine cB [1,2,3,4,5,6,22,23,26] func132 λ_=>?_;refine xX λb1=>?_
 refine Z1 ?_;refine xG (PO.makeFunc Evs.nil (E1 Et)) ?_;refine ZZ [1,2] ?_;refine xf (E1 Et) (may_ct hg g.cond _ (hO.cond.t.mono Sb) hO.cond.w) ?_;refine ZZ [1,1] ?_;refine xY b2B Eb λb12=>?_;refine M6 (Ev.tmp rfl) (E1 (Ev.tmp rfl)) (CT.val (a6Q b1 g Me _ _ _ [3,4] (Rd.ofPt rfl Lb Me)) (congrArg Value.bool (c9h g.k))) Lb ?_;refine kP0 [1,3,4,13] ?_;refine F4 KKh [1,3] rfl (λF' h'=>∃cb:Bool,(cb=a4h g)/\F'=[(4,.bool cb)]/\.pt b1 (.cells (guE g).toArray 100 (0,0))::h=h') ?_ ?_;refine jE ?_;refine wc ?_ ?_<;>intro c13
 refine kA4 ?_;refine A4 (GU.f rfl rfl) (λhc=>⟨Ef,(E1 (Eg hc)),a3n g.cond (hO.cond.t.mono Sb)⟩) Lb ?_;refine kA2 ?_;refine WL.nil (B4 [(4,.bool (F8 g.cond||H4 g.cond))] (h'':=.pt b1 (.cells (guE g).toArray 100 (0,0))::h) ?_ Su Sb ⟨F8 g.cond||H4 g.cond,by unfold a4h;rw[if_pos c13],rfl,rfl⟩);exact Su;refine WC.skip (B4 [(4,.bool (F8 g.cond))] (h'':=.pt b1 (.cells (guE g).toArray 100 (0,0))::h) ?_ Su Sb ⟨F8 g.cond,by unfold a4h;rw[if_neg (by rw[c13];decide)],rfl,rfl⟩);exact Su;rintro _ _ ⟨cb,hcb,rfl,rfl⟩;refine B2 rfl ?_;refine kA1 ?_;refine xW λb5=>?_;refine Z1 ?_;refine kP2 [1,3,4,5,22] ?_;refine F4 KKh [1,3,4,5] rfl (λF' h'=>∃lo:Int,∃hi:Int,(lo=(if g.k=3 then 1 else 0)/\hi=(if g.k=3 then 8 else if g.k=7 then 8 else 0))/\F'=[]/\.pt b5 (.cells [.int .i64 lo,.int .i64 hi].toArray 190 (0,0))::.pt b1 (.cells (guE g).toArray 100 (0,0))::h=h') ?_ ?_;refine Z2 ?_;refine wE ?_ ?_<;>intro c23
 refine j0 ?_;refine xG (K8 (vs:=a8y) X4 rfl rfl Ev.global rfl (λj v hj=>by rw[Nat.zero_add];exact hg.sSome j v hj)) ?_;refine kA1 ?_;refine WL.nil (B4 [] (h'':=.pt b5 (.cells [.int .i64 1,.int .i64 8].toArray 190 (0,0))::.pt b1 (.cells (guE g).toArray 100 (0,0))::h) ?_ Su Sb ⟨1,8,⟨by rw[if_pos c23],by rw[if_pos c23]⟩,rfl,rfl⟩);exact Su;refine Z2 ?_;refine wE ?_ ?_<;>intro c26
 refine kA2 ?_;refine WL.nil (B4 [] (h'':=.pt b5 (.cells [.int .i64 0,.int .i64 8].toArray 190 (0,0))::.pt b1 (.cells (guE g).toArray 100 (0,0))::h) ?_ Su Sb ⟨0,8,⟨by rw[if_neg c23],by rw[if_neg c23,if_pos c26]⟩,rfl,rfl⟩);exact Su;refine WC.skip (B4 [] (h'':=.pt b5 (.cells [.int .i64 0,.int .i64 0].toArray 190 (0,0))::.pt b1 (.cells (guE g).toArray 100 (0,0))::h) ?_ Su Sb ⟨0,0,⟨by rw[if_neg c23],by rw[if_neg c23,if_neg c26]⟩,rfl,rfl⟩);exact Su;rintro _ _ ⟨lo,hi,⟨hlo,hhi⟩,rfl,rfl⟩;refine B2 rfl ?_;refine kA1 ?_;refine xW λb6=>?_;refine Z1 ?_;refine kP3 [1,3,4,5,6,32] ?_;refine F4 KKh [1,3,4,5,6] rfl (λF' h'=>∃lo2:Int,∃hi2:Int,(lo2=(if g.k=5 then 1 else 0)/\hi2=(if g.k=5 then 8 else 0))/\F'=[]/\.pt b6 (.cells [.int .i64 lo2,.int .i64 hi2].toArray 190 (0,0))::.pt b5 (.cells [.int .i64 lo,.int .i64 hi].toArray 190 (0,0))::.pt b1 (.cells (guE g).toArray 100 (0,0))::h=h') ?_ ?_;refine jE ?_;refine wE ?_ ?_<;>intro c32
 refine j0 ?_;refine xG (K8 (vs:=a8y) X4 rfl rfl Ev.global rfl (λj v hj=>by rw[Nat.zero_add];exact hg.sSome j v hj)) ?_;refine kA1 ?_;refine WL.nil (B4 [] (h'':=.pt b6 (.cells [.int .i64 1,.int .i64 8].toArray 190 (0,0))::.pt b5 (.cells [.int .i64 lo,.int .i64 hi].toArray 190 (0,0))::.pt b1 (.cells (guE g).toArray 100 (0,0))::h) ?_ Su Sb ⟨1,8,⟨by rw[if_pos c32],by rw[if_pos c32]⟩,rfl,rfl⟩);exact Su;refine WC.skip (B4 [] (h'':=.pt b6 (.cells [.int .i64 0,.int .i64 0].toArray 190 (0,0))::.pt b5 (.cells [.int .i64 lo,.int .i64 hi].toArray 190 (0,0))::.pt b1 (.cells (guE g).toArray 100 (0,0))::h) ?_ Su Sb ⟨0,0,⟨by rw[if_neg c32],by rw[if_neg c32]⟩,rfl,rfl⟩);exact Su;rintro _ _ ⟨lo2,hi2,⟨hlo2,hhi2⟩,rfl,rfl⟩;refine B2 rfl ?_;refine jE ?_
 refine dS [16,17,21,22,26,27,30,34,38,39,42,45,46,50,51,54,57,58,64] (.op 0 (.op 1 (.op 2 (.op 3 (.op 4 (.op 5 (.op 6 (.op 7 (.op 8 (.op 9 (.op 10 (.op 11 (.op 12 (.op 13 (.op 14 (.op 15 (.op 18 (.op 19 (.op 20 (.op 16 (.op 17 (.op 21 (.op 22 (.op 23 (.op 24 (.op 25 (.op 28 (.op 29 (.op 31 (.op 32 (.op 33 (.op 26 (.op 27 (.op 30 (.op 34 (.op 35 (.op 36 (.op 37 (.op 40 (.op 41 (.op 43 (.op 44 (.op 38 (.op 39 (.op 42 (.op 45 (.op 46 (.op 47 (.op 48 (.op 49 (.op 52 (.op 53 (.op 55 (.op 56 (.op 50 (.op 51 (.op 54 (.op 57 (.op 58 (.op 59 (.op 60 (.op 61 (.op 62 (.op 63 (.op 64 (.op 65 (.op 66 (.op 67 (.op 68 (.op 69 .nil)))))))))))))))))))))))))))))))))))))))))))))))))))))))))))))))))))))) [70,71,72] C4 ?_;refine kA2 ?_;refine yG rfl (P0 Et Ek rfl) ?_;refine kA3 ?_;refine C0 rfl rfl (GU.t rfl rfl) (λhc=>P0 (Eg hc) Ek rfl) Lb ?_;refine kA4 ?_
 refine C0 rfl rfl (GU.t rfl rfl) (λhc=>Y8 c6t (Eg hc)) Lb ?_;refine C0 rfl rfl (GU.t rfl rfl) (λhc=>P0 (Eg hc) Ek rfl) Lb ?_;refine kA2 ?_;refine C0 rfl rfl (GU.t rfl rfl) (λhc=>PO.move Et) Lb ?_;refine C0 rfl rfl (GU.t rfl rfl) (λhc=>PO.move Et) Lb ?_;refine kA2 ?_;refine a1b rfl rfl (GU.t rfl rfl) b2B rfl (λhc=>(EvP.cons Ek (EvP.cons Ek (EvP.cons Ek (EvP.cons Ek EvP.nil))))) rfl rfl (by decide) rfl Lb λb50 r50 hr50=>?_;refine K3 rfl rfl (GU.t rfl rfl) (λhc=>⟨(Y9 rfl hc),(E1 (Y9 rfl hc)),λfr=>CT.val (a6Q b1 g (List.mem_append_right _ Me) _ _ _ [1,2,3,4] (Rd.ofPt rfl Lb (by rw[hr50 hc];exact List.mem_append_right _ (List.Mem.head _)))) (congrArg Value.bool (d0k g.k))⟩) Lb ?_;refine K3 rfl rfl (GU.t rfl rfl) (λhc=>⟨Ef,(E1 (Eg hc)),λfr=>a3n g.cond (hO.cond.t.mono Sb)⟩) Lb ?_;refine K3 rfl rfl (GU.t rfl rfl) (λhc=>⟨Ef,(E3 (Eg hc) (Eg hc) (Eg hc)),λfr=>a2F _ _ _ _ _⟩) Lb ?_;refine kA2 ?_;refine C0 rfl rfl (GU.t rfl rfl) (λhc=>PO.move Et) Lb ?_;refine kA4 ?_;refine C0 rfl rfl (GU.t rfl rfl) (λhc=>H3 (Eg hc) Ek) Lb ?_;refine a1b rfl rfl (GU.t rfl rfl) b2B rfl (λhc=>(EvP.cons Ek EvP.nil)) rfl rfl (by decide) rfl Lb λb60 r60 hr60=>?_
 refine K3 rfl rfl (GU.t rfl rfl) (λhc=>⟨(Y9 rfl hc),(E1 (Y9 rfl hc)),λfr=>CT.val (a6Q b1 g (List.mem_append_right _ Me) _ _ _ [7] (Rd.ofPt rfl Lb (by rw[hr60 hc];exact List.mem_append_right _ (List.Mem.head _)))) (congrArg Value.bool (c9g g.k 7))⟩) Lb ?_;refine K3 rfl rfl (GU.t rfl rfl) (λhc=>⟨Ef,(E1 (Eg hc)),λfr=>a1d g.name _ _ hg hn2⟩) Lb ?_;refine K3 rfl rfl (GU.t rfl rfl) (λhc=>⟨Ef,(E3 (Eg hc) (Eg hc) (Eg hc)),λfr=>a2F _ _ _ _ _⟩) Lb ?_;refine kA2 ?_;refine C0 rfl rfl (GU.t rfl rfl) (λhc=>PO.move Et) Lb ?_;refine kA4 ?_;refine a1b rfl rfl (GU.t rfl rfl) b2B rfl (λhc=>(EvP.cons Ek (EvP.cons Ek EvP.nil))) rfl rfl (by decide) rfl Lb λb72 r72 hr72=>?_;refine K3 rfl rfl (GU.t rfl rfl) (λhc=>⟨(Y9 rfl hc),(E1 (Y9 rfl hc)),λfr=>CT.val (a6Q b1 g (List.mem_append_right _ Me) _ _ _ [3,4] (Rd.ofPt rfl Lb (by rw[hr72 hc];exact List.mem_append_right _ (List.Mem.head _)))) (congrArg Value.bool (c9h g.k))⟩) Lb ?_;refine K3 rfl rfl (GU.t rfl rfl) (λhc=>⟨Ef,(E1 (Eg hc)),λfr=>a5H hg g.ch (hO.ch.mono Sb)⟩) Lb ?_;refine K3 rfl rfl (GU.t rfl rfl) (λhc=>⟨Ef,(E1 (Eg hc)),λfr=>a3n g.ch (hO.ch.t.mono Sb)⟩) Lb ?_;refine K3 rfl rfl (GU.t rfl rfl) (λhc=>⟨Ef,(E3 (Eg hc) (Eg hc) (Eg hc)),λfr=>a2F _ _ _ _ _⟩) Lb ?_;refine kA2 ?_;refine C0 rfl rfl (GU.t rfl rfl) (λhc=>PO.move Et) Lb ?_;refine kA4 ?_;refine a1b rfl rfl (GU.t rfl rfl) b2B rfl (λhc=>(EvP.cons Ek EvP.nil)) rfl rfl (by decide) rfl Lb λb84 r84 hr84=>?_
 refine K3 rfl rfl (GU.t rfl rfl) (λhc=>⟨(Y9 rfl hc),(E1 (Y9 rfl hc)),λfr=>CT.val (a6Q b1 g (List.mem_append_right _ Me) _ _ _ [4] (Rd.ofPt rfl Lb (by rw[hr84 hc];exact List.mem_append_right _ (List.Mem.head _)))) (congrArg Value.bool (c9g g.k 4))⟩) Lb ?_;refine K3 rfl rfl (GU.t rfl rfl) (λhc=>⟨Ef,(E1 (Eg hc)),λfr=>may_ct hg g.time _ (hO.time.t.mono Sb) hO.time.w⟩) Lb ?_;refine K3 rfl rfl (GU.t rfl rfl) (λhc=>⟨Ef,(E1 (Eg hc)),λfr=>a3n g.time (hO.time.t.mono Sb)⟩) Lb ?_;refine K3 rfl rfl (GU.t rfl rfl) (λhc=>⟨Ef,(E3 (Eg hc) (Eg hc) (Eg hc)),λfr=>a2F _ _ _ _ _⟩) Lb ?_;refine kA4 ?_;refine C0 rfl rfl (GU.t rfl rfl) (λhc=>W6 X4 rfl rfl Et Me rfl) Lb ?_;refine K3 rfl rfl (GU.t rfl rfl) (λhc=>⟨Ef,(E3 (Eg hc) (Eg hc) Ef),λfr=>a5T 137 [] F5 lo hi _ _ _ g.tg.l _ _ (λx hx h' hh=>a5H hg x ((hO.tg.ok x hx).mono (List.Sublist.trans Sb hh))) (htr.mono Vl Sb)⟩) Lb ?_
 refine kA4 ?_;refine C0 rfl rfl (GU.t rfl rfl) (λhc=>W6 X4 rfl rfl Et Me rfl) Lb ?_;refine SR.nil rfl rfl ?_;refine A4 (GU.t rfl rfl) (λhc=>⟨Ef,(E3 (Eg hc) (Eg hc) Ef),a5T 139 [] F8 lo2 hi2 _ _ _ g.vl.l _ _ (λx hx h' hh=>may_ct hg x _ ((hO.vl.ok x hx).t.mono (List.Sublist.trans Sb hh)) (hO.vl.ok x hx).w) (hvr.mono Vl Sb)⟩) Lb ?_;refine Z2 ?_;refine wT h ?_;exact⟨by unfold guP;rw[<-hcb,<-hlo,<-hhi,<-hlo2,<-hhi2],rfl⟩
end
section
open Go.Eng Go.Pc Go
open Go.Xp hiding B C9
open Go.Ty (Ty Vr eqT tyV I7 PrOk VOk prL encV D2 M8 D3 eqI a3c a2J b2F)
open Go.Lx (encB encB_len)
theorem b8P{m:View}{h:List Res}(hg:Glob m)(k:Int):CT prog 129 [.int .u8 k] h m (A7 h (.tuple #[.agg (usE (B5 k).1).toArray,.bool (B5 k).2])):=by
 refine cB [0,2,3,4,9,14,18,22,26,35,39,48,52,57,62,66] func129 λ_=>?_;refine xW λb2=>?_
 refine ZZ [1,1,0] ?_;refine kP2 [2,4,5] ?_;refine F4 KKh [2,4] rfl (λF' h'=>∃q1:Bool,(q1=true↔(k=1\/k=2))/\F'=[(5,.bool q1)]/\.pt b2 (.cells (usE us0).toArray 192 (0,0))::h=h') ?_ ?_;refine jE ?_;refine wc ?_ ?_<;>intro c5
 have ca:(k==1)=true:=c5;refine WC.skip (B4 [(5,.bool ((k==1)))] (h'':=.pt b2 (.cells (usE us0).toArray 192 (0,0))::h) ?_ Su Sb ⟨(k==1),⟨λ_=>.inl (by simpa using ca),λ_=>ca⟩,rfl,rfl⟩);exact Su;have ca:(k==1)=false:=c5;refine kA2 ?_;refine WL.nil (B4 [(5,.bool ((k==2)))] (h'':=.pt b2 (.cells (usE us0).toArray 192 (0,0))::h) ?_ Su Sb ⟨(k==2),⟨λhk=>.inr (by simpa using hk),λhk=>hk.elim (λh1=>absurd h1 (by simpa using ca)) (λh1=>by simpa using h1)⟩,rfl,rfl⟩);exact Su;rintro _ _ ⟨q1,hb1,rfl,rfl⟩;refine B2 rfl ?_;refine jE ?_;refine wc ?_ ?_<;>intro c5
 have hk:=hb1.1 c5;refine Z3 ?_;refine w2 h (h1:=cA a0i) ?_;exact⟨by rcases hk with hk|hk<;>(rw[hk];rfl),rfl⟩;have hk12:¬(k=1\/k=2):=λq=>by rw[hb1.2 q]at c5;cases c5
 refine Z2 ?_;refine wE ?_ ?_<;>intro c9
 refine j0 ?_;refine xG (K8 (vs:=a8y) X4 rfl rfl Ev.global rfl (λj v hj=>by rw[Nat.zero_add];exact hg.sSome j v hj)) ?_;refine xG (K8 (vs:=a8y) X4 rfl rfl Ev.global rfl (λj v hj=>by rw[Nat.zero_add];exact hg.sSome j v hj)) ?_;refine Z3 ?_;refine w2 h (h1:=cA a0i) ?_;exact⟨by rw[c9];rfl,rfl⟩;refine Z2 ?_;refine wE ?_ ?_<;>intro c14
 refine j0 ?_;refine xG (K8 (vs:=a8y) X4 rfl rfl Ev.global rfl (λj v hj=>by rw[Nat.zero_add];exact hg.sSome j v hj)) ?_;refine Z3 ?_;refine w2 h (h1:=cA a0i) ?_;exact⟨by rw[c14];rfl,rfl⟩;refine Z2 ?_;refine wE ?_ ?_<;>intro c18
 refine Z4 ?_;refine w2 h (h1:=cA a0i) ?_;exact⟨by rw[c18];rfl,rfl⟩;refine Z2 ?_;refine wE ?_ ?_<;>intro c22
 refine j0 ?_;refine xG (K8 (vs:=b0s) X4 rfl rfl Ev.global rfl (λj v hj=>by rw[Nat.zero_add];exact hg.sOne j v hj)) ?_;refine Z3 ?_;refine w2 h (h1:=cA a0i) ?_;exact⟨by rw[c22];rfl,rfl⟩;refine Z2 ?_;refine wE ?_ ?_<;>intro c26
 refine kA1 ?_;refine xG (PO.build a0i rfl rfl rfl Eb (by exact rfl)) ?_;refine Z2 ?_;refine w2 h (h1:=cA a0i) ?_;exact⟨by rw[c26];rfl,rfl⟩;refine kP2 [2,4,30] ?_;refine F4 KKh [2,4] rfl (λF' h'=>∃q2:Bool,(q2=true↔(k=8\/k=9))/\F'=[(30,.bool q2)]/\.pt b2 (.cells (usE us0).toArray 192 (0,0))::h=h') ?_ ?_;refine jE ?_;refine wc ?_ ?_<;>intro c30
 have ca:(k==8)=true:=c30;refine WC.skip (B4 [(30,.bool ((k==8)))] (h'':=.pt b2 (.cells (usE us0).toArray 192 (0,0))::h) ?_ Su Sb ⟨(k==8),⟨λ_=>.inl (by simpa using ca),λ_=>ca⟩,rfl,rfl⟩);exact Su;have ca:(k==8)=false:=c30;refine kA2 ?_;refine WL.nil (B4 [(30,.bool ((k==9)))] (h'':=.pt b2 (.cells (usE us0).toArray 192 (0,0))::h) ?_ Su Sb ⟨(k==9),⟨λhk=>.inr (by simpa using hk),λhk=>hk.elim (λh1=>absurd h1 (by simpa using ca)) (λh1=>by simpa using h1)⟩,rfl,rfl⟩);exact Su;rintro _ _ ⟨q2,hb2,rfl,rfl⟩;refine B2 rfl ?_;refine jE ?_;refine wc ?_ ?_<;>intro c30
 have hk:=hb2.1 c30;refine j0 ?_;refine xG (K8 (vs:=c5w) X4 rfl rfl Ev.global rfl (λj v hj=>by rw[Nat.zero_add];exact hg.sAll j v hj)) ?_;refine Z3 ?_;refine w2 h (h1:=cA a0i) ?_;exact⟨by rcases hk with hk|hk<;>(rw[hk];rfl),rfl⟩;have hk89:¬(k=8\/k=9):=λq=>by rw[hb2.2 q]at c30;cases c30
 refine Z2 ?_;refine wE ?_ ?_<;>intro c35
 refine Z4 ?_;refine w2 h (h1:=cA a0i) ?_;exact⟨by rw[c35];rfl,rfl⟩;refine Z2 ?_;refine wE ?_ ?_<;>intro c39
 refine Z4 ?_;refine w2 h (h1:=cA a0i) ?_;exact⟨by rw[c39];rfl,rfl⟩;refine kP2 [2,4,43] ?_;refine F4 KKh [2,4] rfl (λF' h'=>∃q3:Bool,(q3=true↔(k=12\/k=13))/\F'=[(43,.bool q3)]/\.pt b2 (.cells (usE us0).toArray 192 (0,0))::h=h') ?_ ?_;refine jE ?_;refine wc ?_ ?_<;>intro c43
 have ca:(k==12)=true:=c43;refine WC.skip (B4 [(43,.bool ((k==12)))] (h'':=.pt b2 (.cells (usE us0).toArray 192 (0,0))::h) ?_ Su Sb ⟨(k==12),⟨λ_=>.inl (by simpa using ca),λ_=>ca⟩,rfl,rfl⟩);exact Su;have ca:(k==12)=false:=c43;refine kA2 ?_;refine WL.nil (B4 [(43,.bool ((k==13)))] (h'':=.pt b2 (.cells (usE us0).toArray 192 (0,0))::h) ?_ Su Sb ⟨(k==13),⟨λhk=>.inr (by simpa using hk),λhk=>hk.elim (λh1=>absurd h1 (by simpa using ca)) (λh1=>by simpa using h1)⟩,rfl,rfl⟩);exact Su;rintro _ _ ⟨q3,hb3,rfl,rfl⟩;refine B2 rfl ?_;refine jE ?_;refine wc ?_ ?_<;>intro c43
 have hk:=hb3.1 c43;refine kA1 ?_;refine xG (PO.build a0i rfl rfl rfl Eb (by exact rfl)) ?_;refine Z2 ?_;refine w2 h (h1:=cA a0i) ?_;exact⟨by rcases hk with hk|hk<;>(rw[hk];rfl),rfl⟩;have hk1213:¬(k=12\/k=13):=λq=>by rw[hb3.2 q]at c43;cases c43
 refine Z2 ?_;refine wE ?_ ?_<;>intro c48
 refine kA1 ?_;refine xG (PO.build a0i rfl rfl rfl Eb (by exact rfl)) ?_;refine Z2 ?_;refine w2 h (h1:=cA a0i) ?_;exact⟨by rw[c48];rfl,rfl⟩;refine Z2 ?_;refine wE ?_ ?_<;>intro c52
 refine j0 ?_;refine xG (K8 (vs:=b0s) X4 rfl rfl Ev.global rfl (λj v hj=>by rw[Nat.zero_add];exact hg.sOne j v hj)) ?_;refine kA1 ?_;refine xG (PO.build a0i rfl rfl rfl Eb (by exact rfl)) ?_;refine Z2 ?_;refine w2 h (h1:=cA a0i) ?_;exact⟨by rw[c52];rfl,rfl⟩;refine Z2 ?_;refine wE ?_ ?_<;>intro c57
 refine j0 ?_;refine xG (K8 (vs:=b0s) X4 rfl rfl Ev.global rfl (λj v hj=>by rw[Nat.zero_add];exact hg.sOne j v hj)) ?_;refine xG (K8 (vs:=b0s) X4 rfl rfl Ev.global rfl (λj v hj=>by rw[Nat.zero_add];exact hg.sOne j v hj)) ?_;refine Z3 ?_;refine w2 h (h1:=cA a0i) ?_;exact⟨by rw[c57];rfl,rfl⟩;refine Z2 ?_;refine wE ?_ ?_<;>intro c62
 refine Z4 ?_;refine w2 h (h1:=cA a0i) ?_;exact⟨by rw[c62];rfl,rfl⟩;refine Z2 ?_;refine wE ?_ ?_<;>intro c66
 refine j0 ?_;refine xG (K8 (vs:=b0s) X4 rfl rfl Ev.global rfl (λj v hj=>by rw[Nat.zero_add];exact hg.sOne j v hj)) ?_;refine Z3 ?_;refine w2 h (h1:=cA a0i) ?_;exact⟨by rw[c66];rfl,rfl⟩;have hF:B5 k=(us0,false):=by unfold B5;repeat rw[if_neg (by omega)]
 refine ZZ [0,3,0] ?_;refine w2 h (h1:=cA a0i) ?_;exact⟨by rw[hF];rfl,rfl⟩
def eqS(x y:B):Bool:=x==y
theorem c7b{x y:B}(h:(!(x==y))=true):eqS x y=false:=by simpa [eqS]using h
theorem c7r{x y:B}(h:(!(x==y))=false):eqS x y=true:=by simpa [eqS]using h
theorem c6r(x y:B):eqS x y=true↔x=y:=by simp[eqS]
theorem c4V{x y:Fo}(h:(!(a0s x y))=true):a0s x y=false:=by simpa using h
theorem c4y{x y:Fo}(h:(!(a0s x y))=false):a0s x y=true:=by simpa using h
theorem b7H{α:Type}[BEq α][LawfulBEq α]{e:α->α->Bool}(he:∀x y,e x y=true↔x=y)(xs ys:List α):eqL e xs ys=(xs==ys):=by rw[Bool.eq_iff_iff,b3s he];simp
theorem b5E(s1 s2:Option Addr)(n1 c1 n2 c2:Nat)(xs ys:List _)(h:List Res)(m:View)(h1:Rd m h s1 n1 c1 1 (fl M8 xs))(h2:Rd m h s2 n2 c2 1 (fl M8 ys)) :
 CT prog 303 [.slice s1 n1 c1,.slice s2 n2 c2] h m (A7 h (.bool (eqL eqI xs ys))):=by
 have l1:=h1.lenF D3 (by decide);have l2:=h2.lenF D3 (by decide);have m1:=h1.mx;have m2:=h2.mx;have k1:=h1.le;have k2:=h2.le;refine cB [0,1,4,5,10,12,13,14,24] func303 λ_=>?_;refine ZZ [1,5,0] ?_;refine wN ?_ ?_<;>intro c10
 refine Z1 ?_;refine wT h ?_;exact⟨by rw[U4 _ _ _ (by omega)],rfl⟩;refine ZZ [0,3,0] ?_;refine B1 [0,1,12] rfl (λμ F' h'=>∃k:Nat,(k<=n1/\eqL eqI xs ys=eqL eqI (xs.drop k) (ys.drop k))/\n1-k=μ/\F'=[(13,.int .i64 k)]/\h=h') (n1-0) [(13,.int .i64 0)] (h0:=h) ?_ Sb ⟨0,⟨by omega,by simp⟩,rfl,rfl,rfl⟩ ?_;exact Su;rintro _ _ _ ⟨k,⟨hk,hJ⟩,rfl,rfl,rfl⟩;refine B2 rfl ?_;refine Z1 ?_;refine wD ?_ ?_<;>intro c14
 obtain⟨x,hx⟩:=A5 (l:=xs) (k:=k) (by omega);obtain⟨y,hy⟩:=A5 (l:=ys) (k:=k) (by omega);rw[R9 _ hx hy]at hJ;refine ZZ [0,2,0] ?_;refine dS [] (.op 0 (.op 1 (.op 2 (.op 3 (.op 4 (.op 5 (.op 6 (.op 7 .nil)))))))) [8] C4 ?_;refine kA8 ?_;refine SR.nil rfl rfl ?_;refine Z1 ?_;refine wc ?_ ?_<;>intro c24
 refine Z1 ?_;refine wT h ?_;exact⟨by rw[hJ,a3c c24];rfl,rfl⟩;rw[a2J c24,Bool.true_and]at hJ;refine ZZ [0,2] ?_;refine WL.nil (A6 (n1-(k+1)) [(13,.int .i64 (k+1))] (h'':=h) (by omega) ?_ Su Sb ⟨k+1,⟨by omega,hJ⟩,rfl,rfl,rfl⟩);exact Su;refine ZZ [0,1,0] ?_;refine wT h ?_;exact⟨by rw[hJ,List.drop_eq_nil_of_le (by omega),List.drop_eq_nil_of_le (by omega)];rfl,rfl⟩
theorem b6a(s1 s2:Option Addr)(n1 c1 n2 c2:Nat)(xs ys:List _)(h:List Res)(m:View)(h1:Rd m h s1 n1 c1 1 (fl encB xs))(h2:Rd m h s2 n2 c2 1 (fl encB ys)) :
 CT prog 304 [.slice s1 n1 c1,.slice s2 n2 c2] h m (A7 h (.bool (eqL eqS xs ys))):=by
 have l1:=h1.lenF encB_len (by decide);have l2:=h2.lenF encB_len (by decide);have m1:=h1.mx;have m2:=h2.mx;have k1:=h1.le;have k2:=h2.le;refine cB [0,1,4,5,10,12,13,14,24] func304 λ_=>?_;refine ZZ [1,5,0] ?_;refine wN ?_ ?_<;>intro c10
 refine Z1 ?_;refine wT h ?_;exact⟨by rw[U4 _ _ _ (by omega)],rfl⟩;refine ZZ [0,3,0] ?_;refine B1 [0,1,12] rfl (λμ F' h'=>∃k:Nat,(k<=n1/\eqL eqS xs ys=eqL eqS (xs.drop k) (ys.drop k))/\n1-k=μ/\F'=[(13,.int .i64 k)]/\h=h') (n1-0) [(13,.int .i64 0)] (h0:=h) ?_ Sb ⟨0,⟨by omega,by simp⟩,rfl,rfl,rfl⟩ ?_;exact Su;rintro _ _ _ ⟨k,⟨hk,hJ⟩,rfl,rfl,rfl⟩;refine B2 rfl ?_;refine Z1 ?_;refine wD ?_ ?_<;>intro c14
 obtain⟨x,hx⟩:=A5 (l:=xs) (k:=k) (by omega);obtain⟨y,hy⟩:=A5 (l:=ys) (k:=k) (by omega);rw[R9 _ hx hy]at hJ;refine ZZ [0,2,0] ?_;refine dS [] (.op 0 (.op 1 (.op 2 (.op 3 (.op 4 (.op 5 (.op 6 (.op 7 .nil)))))))) [8] C4 ?_;refine kA8 ?_;refine SR.nil rfl rfl ?_;refine xG (S2 Et Et) ?_;refine Z0 ?_;refine wc ?_ ?_<;>intro c24
 refine Z1 ?_;refine wT h ?_;exact⟨by rw[hJ,c7b c24];rfl,rfl⟩;rw[c7r c24,Bool.true_and]at hJ;refine ZZ [0,2] ?_;refine WL.nil (A6 (n1-(k+1)) [(13,.int .i64 (k+1))] (h'':=h) (by omega) ?_ Su Sb ⟨k+1,⟨by omega,hJ⟩,rfl,rfl,rfl⟩);exact Su;refine ZZ [0,1,0] ?_;refine wT h ?_;exact⟨by rw[hJ,List.drop_eq_nil_of_le (by omega),List.drop_eq_nil_of_le (by omega)];rfl,rfl⟩
theorem b4b(s1 s2:Option Addr)(n1 c1 n2 c2:Nat)(xs ys:List _)(h:List Res)(m:View)(h1:Rd m h s1 n1 c1 6 (fl foE xs))(h2:Rd m h s2 n2 c2 6 (fl foE ys)) :
 CT prog 306 [.slice s1 n1 c1,.slice s2 n2 c2] h m (A7 h (.bool (eqL a0s xs ys))):=by
 have l1:=h1.lenF a2w (by decide);have l2:=h2.lenF a2w (by decide);have m1:=h1.mx;have m2:=h2.mx;have k1:=h1.le;have k2:=h2.le;refine cB [0,1,4,5,10,12,13,14,24] func306 λ_=>?_;refine ZZ [1,5,0] ?_;refine wN ?_ ?_<;>intro c10
 refine Z1 ?_;refine wT h ?_;exact⟨by rw[U4 _ _ _ (by omega)],rfl⟩;refine ZZ [0,3,0] ?_;refine B1 [0,1,12] rfl (λμ F' h'=>∃k:Nat,(k<=n1/\eqL a0s xs ys=eqL a0s (xs.drop k) (ys.drop k))/\n1-k=μ/\F'=[(13,.int .i64 k)]/\h=h') (n1-0) [(13,.int .i64 0)] (h0:=h) ?_ Sb ⟨0,⟨by omega,by simp⟩,rfl,rfl,rfl⟩ ?_;exact Su;rintro _ _ _ ⟨k,⟨hk,hJ⟩,rfl,rfl,rfl⟩;refine B2 rfl ?_;refine Z1 ?_;refine wD ?_ ?_<;>intro c14
 obtain⟨x,hx⟩:=A5 (l:=xs) (k:=k) (by omega);obtain⟨y,hy⟩:=A5 (l:=ys) (k:=k) (by omega);rw[R9 _ hx hy]at hJ;refine ZZ [0,2,0] ?_;refine dS [] (.op 0 (.op 1 (.op 2 (.op 3 (.op 4 (.op 5 (.op 6 (.op 7 .nil)))))))) [8] C4 ?_;refine kA8 ?_;refine SR.nil rfl rfl ?_;refine xG (b59 (o:=36) b2i (by kernel_rfl) (by kernel_rfl) Et Et (by kernel_rfl) rfl) ?_;refine Z0 ?_;refine wc ?_ ?_<;>intro c24
 refine Z1 ?_;refine wT h ?_;exact⟨by rw[hJ,c4V c24];rfl,rfl⟩;rw[c4y c24,Bool.true_and]at hJ;refine ZZ [0,2] ?_;refine WL.nil (A6 (n1-(k+1)) [(13,.int .i64 (k+1))] (h'':=h) (by omega) ?_ Su Sb ⟨k+1,⟨by omega,hJ⟩,rfl,rfl,rfl⟩);exact Su;refine ZZ [0,1,0] ?_;refine wT h ?_;exact⟨by rw[hJ,List.drop_eq_nil_of_le (by omega),List.drop_eq_nil_of_le (by omega)];rfl,rfl⟩
theorem c8J{m:View}{h:List Res}(x y:Vr)(hx:VOk m h x)(hy:VOk m h y):CT prog 302 [.agg (encV x).toArray,.agg (encV y).toArray] h m (A7 h (.bool (P2 x y))):=by
 have r1:=hx.rd;have r2:=hy.rd;have hi:=b7H b2F x.items y.items;refine cB [2,3,4] func302 λ_=>?_;refine xX λb2=>?_
 refine xX λb3=>?_;refine ZZ [1,4] ?_;refine xG (H3 Et Et) ?_;refine kA5 ?_;refine A4 (GU.t rfl rfl) (λhc=>⟨Ef,(E2 (Eg hc) (Eg hc)),b5E _ _ _ _ _ _ _ _ _ _ Rr Rr⟩) Lb ?_;refine Z2 ?_;refine wT h ?_;exact⟨by unfold P2;rw[<-hi],rfl⟩
theorem c4T(q:FuncId)(pr:Vr->Vr->Bool)(s1 s2:Option Addr)(n1 c1 n2 c2:Nat)(xs ys:List Vr)(h:List Res)(m:View)(h1:Rd m h s1 n1 c1 2 (fl encV xs))(h2:Rd m h s2 n2 c2 2 (fl encV ys))
 (hq:∀x∈xs,∀y∈ys,∀h',h.Sublist h'->CT prog q ([]++[.agg (encV x).toArray,.agg (encV y).toArray]++[]) h' m (A7 h' (.bool (pr x y)))) :
 CT prog 305 [.slice s1 n1 c1,.slice s2 n2 c2,.func (.func q) #[] #[]] h m (A7 h (.bool (eqL pr xs ys))):=by
 have l1:=h1.lenF D2 (by decide);have l2:=h2.lenF D2 (by decide);have m1:=h1.mx;have m2:=h2.mx;have k1:=h1.le;have k2:=h2.le;refine cB [0,1,2,6,7,8,9,14,15,16,17,18,30] func305 λ_=>?_;refine ZZ [1,5,0] ?_;refine wN ?_ ?_<;>intro c14
 refine Z1 ?_;refine wT h ?_;exact⟨by rw[U4 _ _ _ (by omega)],rfl⟩;refine ZZ [0,3,0] ?_;refine B1 [1,2,15,16] rfl (λμ F' h'=>∃k:Nat,(k<=n1/\eqL pr xs ys=eqL pr (xs.drop k) (ys.drop k))/\n1-k=μ/\F'=[(17,.int .i64 k)]/\h=h') (n1-0) [(17,.int .i64 0)] (h0:=h) ?_ Sb ⟨0,⟨by omega,by simp⟩,rfl,rfl,rfl⟩ ?_;exact Su;rintro _ _ _ ⟨k,⟨hk,hJ⟩,rfl,rfl,rfl⟩;refine B2 rfl ?_;refine Z1 ?_;refine wD ?_ ?_<;>intro c18
 obtain⟨x,hx⟩:=A5 (l:=xs) (k:=k) (by omega);obtain⟨y,hy⟩:=A5 (l:=ys) (k:=k) (by omega);rw[R9 _ hx hy]at hJ;refine ZZ [0,3] ?_;refine xW λb8=>?_
 refine ZZ [2,4] ?_;refine xW λb9=>?_;refine ZZ [1,3] ?_;refine M6 (Ev.tmp rfl) (E2 (Ev.tmp rfl) (Ev.tmp rfl)) (hq x (List.mem_of_getElem? hx) y (List.mem_of_getElem? hy) _ Sb) Lb ?_;refine Z1 ?_;refine wc ?_ ?_<;>intro c30
 have d30:pr x y=false:=by simpa using c30
 rw[d30]at hJ;refine Z1 ?_;refine wT h ?_;exact⟨by rw[hJ];rfl,rfl⟩;have d30:pr x y=true:=by simpa using c30
 rw[d30,Bool.true_and]at hJ;refine ZZ [0,2] ?_;refine WL.nil (A6 (n1-(k+1)) [(17,.int .i64 (k+1))] (h'':=h) (by omega) ?_ Su Sb ⟨k+1,⟨by omega,hJ⟩,rfl,rfl,rfl⟩);exact Su;refine ZZ [0,1,0] ?_;refine wT h ?_;exact⟨by rw[hJ,List.drop_eq_nil_of_le (by omega),List.drop_eq_nil_of_le (by omega)];rfl,rfl⟩
theorem c5P(q:FuncId)(pr:Pr->Pr->Bool)(s1 s2:Option Addr)(n1 c1 n2 c2:Nat)(xs ys:List Pr)(h:List Res)(m:View)(h1:Rd m h s1 n1 c1 42 (fl prE xs))(h2:Rd m h s2 n2 c2 42 (fl prE ys))
 (hq:∀x∈xs,∀y∈ys,∀h',h.Sublist h'->CT prog q ([]++[prV x,prV y]++[]) h' m (A7 h' (.bool (pr x y)))) :
 CT prog 242 [.slice s1 n1 c1,.slice s2 n2 c2,.func (.func q) #[] #[]] h m (A7 h (.bool (eqL pr xs ys))):=by
 have l1:=h1.lenF a2r (by decide);have l2:=h2.lenF a2r (by decide);have m1:=h1.mx;have m2:=h2.mx;have k1:=h1.le;have k2:=h2.le;refine cB [0,1,2,6,7,8,9,14,15,16,17,18,30] func242 λ_=>?_;refine ZZ [1,5,0] ?_;refine wN ?_ ?_<;>intro c14
 refine Z1 ?_;refine wT h ?_;exact⟨by rw[U4 _ _ _ (by omega)],rfl⟩;refine ZZ [0,3,0] ?_;refine B1 [1,2,15,16] rfl (λμ F' h'=>∃k:Nat,(k<=n1/\eqL pr xs ys=eqL pr (xs.drop k) (ys.drop k))/\n1-k=μ/\F'=[(17,.int .i64 k)]/\h=h') (n1-0) [(17,.int .i64 0)] (h0:=h) ?_ Sb ⟨0,⟨by omega,by simp⟩,rfl,rfl,rfl⟩ ?_;exact Su;rintro _ _ _ ⟨k,⟨hk,hJ⟩,rfl,rfl,rfl⟩;refine B2 rfl ?_;refine Z1 ?_;refine wD ?_ ?_<;>intro c18
 obtain⟨x,hx⟩:=A5 (l:=xs) (k:=k) (by omega);obtain⟨y,hy⟩:=A5 (l:=ys) (k:=k) (by omega);rw[R9 _ hx hy]at hJ;refine ZZ [0,3] ?_;refine xW λb8=>?_
 refine ZZ [2,4] ?_;refine xW λb9=>?_;refine ZZ [1,3] ?_;refine M6 (Ev.tmp rfl) (E2 (Ev.tmp rfl) (Ev.tmp rfl)) (hq x (List.mem_of_getElem? hx) y (List.mem_of_getElem? hy) _ Sb) Lb ?_;refine Z1 ?_;refine wc ?_ ?_<;>intro c30
 have d30:pr x y=false:=by simpa using c30
 rw[d30]at hJ;refine Z1 ?_;refine wT h ?_;exact⟨by rw[hJ];rfl,rfl⟩;have d30:pr x y=true:=by simpa using c30
 rw[d30,Bool.true_and]at hJ;refine ZZ [0,2] ?_;refine WL.nil (A6 (n1-(k+1)) [(17,.int .i64 (k+1))] (h'':=h) (by omega) ?_ Su Sb ⟨k+1,⟨by omega,hJ⟩,rfl,rfl,rfl⟩);exact Su;refine ZZ [0,1,0] ?_;refine wT h ?_;exact⟨by rw[hJ,List.drop_eq_nil_of_le (by omega),List.drop_eq_nil_of_le (by omega)];rfl,rfl⟩
structure SRd(m:View)(h:List Res)(s:Sp):Prop where
 b:Rd m h s.ba s.bl.length s.bc 42 (fl prE s.bl)
 nr:Rd m h s.names.a s.names.l.length s.names.c 1 (fl encB s.names.l)
 e:TOk m h s.e
 v:PrOk m h s.vs.a s.vs.l.length s.vs.c s.vs.l
 fr:Rd m h s.fs.a s.fs.l.length s.fs.c 6 (fl foE s.fs.l)
theorem SRd.mono{m:View}{h h':List Res}{s:Sp}(q:SRd m h s)(r:h.Sublist h'):SRd m h' s:=⟨q.b.mono Vl r,q.nr.mono Vl r,q.e.mono r,q.v.mono Vl r,q.fr.mono Vl r⟩
theorem SRd.of{m:View}{h:List Res}{s:Sp}(q:SOk m h s):SRd m h s:=⟨q.b,q.nr,q.e.t,q.v,q.fr⟩
theorem b1Z{m:View}{h:List Res}(x y:Sp)(hx:SRd m h x)(hy:SRd m h y):CT prog 241 [spV x,spV y] h m (A7 h (.bool (J9 x y))):=by
 have n1:=hx.nr;have n2:=hy.nr;have f1:=hx.fr;have f2:=hy.fr;have v1:=hx.v.rd;have v2:=hy.v.rd;refine cB [2,3,4,5] func241 λ_=>?_;refine xX λb2=>?_
 refine xX λb3=>?_;refine Z1 ?_;refine xG (PO.assign Ef) ?_;refine ZZ [0,10] ?_;refine E8 (GU.t rfl rfl) (λhc=>a1i a8H (by kernel_rfl) (by kernel_rfl) (Eg hc) (Eg hc) rfl) Lb ?_;refine kA6 ?_;refine A4 (GU.t rfl rfl) (λhc=>⟨Ef,(E2 (Eg hc) (Eg hc)),CT.val (b6a _ _ _ _ _ _ x.names.l y.names.l _ _ (n1.mono Vl Sb) (n2.mono Vl Sb)) (congrArg Value.bool (b7H c6r x.names.l y.names.l))⟩) Lb ?_;refine kA6 ?_;refine A4 (GU.t rfl rfl) (λhc=>⟨Ef,(E2 (Eg hc) (Eg hc)),b7O x.e y.e _ _ (hx.e.mono Sb) (hy.e.mono Sb)⟩) Lb ?_;refine kA8 ?_;refine zG (λhc=>c5g uu4 (Eg hc) (Eg hc)) ?_;refine kA9 ?_;refine A4 (GU.t rfl rfl) (λhc=>⟨Ef,(E3 (Eg hc) (Eg hc) (Eg hc)),c4T 302 P2 _ _ _ _ _ _ x.vs.l y.vs.l _ _ (v1.mono Vl Sb) (v2.mono Vl Sb) (λu hu w hw h' hh=>c8J u w ((hx.v.ok u hu).mono Vl (List.Sublist.trans Sb hh)) ((hy.v.ok w hw).mono Vl (List.Sublist.trans Sb hh)))⟩) Lb ?_;refine kA6 ?_
 refine A4 (GU.t rfl rfl) (λhc=>⟨Ef,(E2 (Eg hc) (Eg hc)),b4b _ _ _ _ _ _ _ _ _ _ Rr Rr⟩) Lb ?_;refine Z11 ?_;refine wT h ?_;exact⟨rfl,rfl⟩
theorem b5R(m:View)(h:List Res):SRd m h C3:=⟨Rd.nilF prE 42 m h,Rd.nilF encB 1 m h,a9f m h,⟨Rd.nilF encV 2 m h,λ_ hv=>(by cases hv),λ_ hv=>(by cases hv)⟩,Rd.nilF foE 6 m h⟩
theorem c1D{m:View}{h:List Res}(x:Sp)(hx:SRd m h x):CT prog 143 [spV x,spV C3] h m (A7 h (.bool (J9 x C3))):=by
 refine cB [2,3,4] func143 λ_=>?_;refine xX λb2=>?_
 refine xX λb3=>?_;refine ZZ [1,2] ?_;refine xf (E2 Et Et) (b1Z x C3 (hx.mono Sb) (b5R _ _)) ?_;refine kA5 ?_;refine A4 (GU.t rfl rfl) (λhc=>⟨Ef,(E3 (Eg hc) (Eg hc) Ef),CT.val (c5P 243 (λ_ _=>true) _ _ _ _ _ _ x.bl [] _ _ (hx.b.mono Vl Sb) (Rd.nilF prE 42 _ _) (λ_ _ y hy=>by cases hy)) (congrArg Value.bool (by rw[c6S hc]))⟩) Lb ?_;refine Z2 ?_;refine wT h ?_;exact⟨congrArg Value.bool (Bool.and_true _),rfl⟩
end
end Go.Proofs.YtkgfanibfkdbfaaGreatDoor

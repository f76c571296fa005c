import Derived.Test.YtgcjpahhljmlmaaGreatDoorLParsesY3
import Derived.Test.YtgcjpahhljmlmaaGreatDoorProg
import Derived.Test.YtgcjpahhljmlmaaGreatDoorShelfS
import Derived.Test.YtgcjpahhljmlmaaGreatDoorRows
set_option maxRecDepth 100000
set_option maxHeartbeats 4000000
set_option linter.defProp false
namespace Go.Proofs.YtgcjpahhljmlmaaGreatDoor
open Go.Proofs.Tryz
section
set_option linter.defProp false
abbrev uu2:=Tryz.underlying2
@[reducible,instance]def i2:=Go.Eng.Ud.mk uu2
abbrev uu3:=Tryz.underlying3
@[reducible,instance]def i3:=Go.Eng.Ud.mk uu3
abbrev uu4:=Tryz.underlying4
@[reducible,instance]def i4:=Go.Eng.Ud.mk uu4
abbrev uu5:=Tryz.underlying5
@[reducible,instance]def i5:=Go.Eng.Ud.mk uu5
abbrev uu9:=Tryz.underlying9
@[reducible,instance]def i9:=Go.Eng.Ud.mk uu9
abbrev c1V:=Tryz.underlying20
@[reducible,instance]def i20:=Go.Eng.Ud.mk c1V
abbrev a0R:=Tryz.underlying21
@[reducible,instance]def i21:=Go.Eng.Ud.mk a0R
abbrev a6b:=Tryz.underlying22
@[reducible,instance]def i22:=Go.Eng.Ud.mk a6b
abbrev d0r:=Tryz.underlying23
@[reducible,instance]def i23:=Go.Eng.Ud.mk d0r
abbrev d06:=Tryz.underlying24
@[reducible,instance]def i24:=Go.Eng.Ud.mk d06
abbrev c9b:=Tryz.underlying25
@[reducible,instance]def i25:=Go.Eng.Ud.mk c9b
abbrev c8C:=Tryz.underlying26
@[reducible,instance]def i26:=Go.Eng.Ud.mk c8C
abbrev c9F:=Tryz.underlying27
@[reducible,instance]def i27:=Go.Eng.Ud.mk c9F
abbrev P7:=Tryz.underlying29
@[reducible,instance]def i29:=Go.Eng.Ud.mk P7
abbrev c3s:=Tryz.underlying31
@[reducible,instance]def i31:=Go.Eng.Ud.mk c3s
abbrev d0d:=Tryz.underlying32
@[reducible,instance]def i32:=Go.Eng.Ud.mk d0d
abbrev c2b:=Tryz.underlying33
@[reducible,instance]def i33:=Go.Eng.Ud.mk c2b
abbrev d0v:=Tryz.underlying34
@[reducible,instance]def i34:=Go.Eng.Ud.mk d0v
abbrev d0m:=Tryz.underlying35
@[reducible,instance]def i35:=Go.Eng.Ud.mk d0m
abbrev a7s:=Tryz.underlying37
@[reducible,instance]def i37:=Go.Eng.Ud.mk a7s
abbrev d0b:=Tryz.underlying38
@[reducible,instance]def i38:=Go.Eng.Ud.mk d0b
abbrev c8c:=Tryz.underlying39
@[reducible,instance]def i39:=Go.Eng.Ud.mk c8c
abbrev b4R:=Tryz.underlying41
@[reducible,instance]def i41:=Go.Eng.Ud.mk b4R
abbrev d0j:=Tryz.underlying42
@[reducible,instance]def i42:=Go.Eng.Ud.mk d0j
abbrev a4R:=Tryz.underlying44
@[reducible,instance]def i44:=Go.Eng.Ud.mk a4R
abbrev Q3:=Tryz.underlying46
@[reducible,instance]def i46:=Go.Eng.Ud.mk Q3
abbrev b6H:=Tryz.underlying47
@[reducible,instance]def i47:=Go.Eng.Ud.mk b6H
abbrev a8Y:=Tryz.underlying52
@[reducible,instance]def i52:=Go.Eng.Ud.mk a8Y
abbrev c84:=Tryz.underlying58
@[reducible,instance]def i58:=Go.Eng.Ud.mk c84
abbrev c0i:=Tryz.underlying63
@[reducible,instance]def i63:=Go.Eng.Ud.mk c0i
abbrev c9Z:=Tryz.underlying74
@[reducible,instance]def i74:=Go.Eng.Ud.mk c9Z
abbrev c6m:=Tryz.underlying76
@[reducible,instance]def i76:=Go.Eng.Ud.mk c6m
abbrev a2O:=Tryz.underlying87
@[reducible,instance]def i87:=Go.Eng.Ud.mk a2O
abbrev c6a:=Tryz.underlying91
@[reducible,instance]def i91:=Go.Eng.Ud.mk c6a
abbrev a4C:=Tryz.underlying93
@[reducible,instance]def i93:=Go.Eng.Ud.mk a4C
abbrev b9m:=Tryz.underlying95
@[reducible,instance]def i95:=Go.Eng.Ud.mk b9m
abbrev c9D:=Tryz.underlying104
@[reducible,instance]def i104:=Go.Eng.Ud.mk c9D
abbrev a4L:=Tryz.underlying112
@[reducible,instance]def i112:=Go.Eng.Ud.mk a4L
abbrev a2H:=Tryz.underlying114
@[reducible,instance]def i114:=Go.Eng.Ud.mk a2H
abbrev C7:=Tryz.underlying116
@[reducible,instance]def i116:=Go.Eng.Ud.mk C7
abbrev c3D:=Tryz.underlying118
@[reducible,instance]def i118:=Go.Eng.Ud.mk c3D
abbrev c6M:=Tryz.underlying119
@[reducible,instance]def i119:=Go.Eng.Ud.mk c6M
abbrev c2c:=Tryz.underlying121
@[reducible,instance]def i121:=Go.Eng.Ud.mk c2c
abbrev b1F:=Tryz.underlying143
@[reducible,instance]def i143:=Go.Eng.Ud.mk b1F
abbrev a8f:=Tryz.underlying145
@[reducible,instance]def i145:=Go.Eng.Ud.mk a8f
abbrev c9y:=Tryz.underlying150
@[reducible,instance]def i150:=Go.Eng.Ud.mk c9y
abbrev W5:=Tryz.underlying172
@[reducible,instance]def i172:=Go.Eng.Ud.mk W5
abbrev c9a:=Tryz.underlying176
@[reducible,instance]def i176:=Go.Eng.Ud.mk c9a
abbrev c6R:=Tryz.underlying182
@[reducible,instance]def i182:=Go.Eng.Ud.mk c6R
abbrev c7e:=Tryz.underlying187
@[reducible,instance]def i187:=Go.Eng.Ud.mk c7e
abbrev a0e:=Tryz.underlying203
@[reducible,instance]def i203:=Go.Eng.Ud.mk a0e
abbrev c6I:=Tryz.underlying207
@[reducible,instance]def i207:=Go.Eng.Ud.mk c6I
abbrev c8Y:=Tryz.underlying251
@[reducible,instance]def i251:=Go.Eng.Ud.mk c8Y
abbrev c9J:=Tryz.underlying255
@[reducible,instance]def i255:=Go.Eng.Ud.mk c9J
abbrev c7b:=Tryz.underlying261
@[reducible,instance]def i261:=Go.Eng.Ud.mk c7b
abbrev c3N:=Tryz.underlying271
@[reducible,instance]def i271:=Go.Eng.Ud.mk c3N
abbrev b4g:=Tryz.underlying273
@[reducible,instance]def i273:=Go.Eng.Ud.mk b4g
abbrev a8m:=Tryz.underlying274
@[reducible,instance]def i274:=Go.Eng.Ud.mk a8m
abbrev b2i:=Tryz.underlying277
@[reducible,instance]def i277:=Go.Eng.Ud.mk b2i
abbrev c3O:=Tryz.underlying281
@[reducible,instance]def i281:=Go.Eng.Ud.mk c3O
abbrev b7v:=Tryz.underlying288
@[reducible,instance]def i288:=Go.Eng.Ud.mk b7v
abbrev b3z:=Tryz.underlying289
@[reducible,instance]def i289:=Go.Eng.Ud.mk b3z
abbrev c2v:=Tryz.underlying318
@[reducible,instance]def i318:=Go.Eng.Ud.mk c2v
abbrev b7W:=Tryz.underlying335
@[reducible,instance]def i335:=Go.Eng.Ud.mk b7W
abbrev c1I:=Tryz.underlying336
@[reducible,instance]def i336:=Go.Eng.Ud.mk c1I
abbrev c6H:=Tryz.underlying339
@[reducible,instance]def i339:=Go.Eng.Ud.mk c6H
abbrev c6N:=Tryz.underlying345
@[reducible,instance]def i345:=Go.Eng.Ud.mk c6N
end
section
open Go.Eng Go
theorem C9:Tryz.prog.follows .mixedOrders=true:=by kernel_rfl
theorem V1:EL prog 22 52 3 32:=⟨_,_,rfl,rfl,rfl,rfl,rfl,rfl,by decide⟩
@[reducible,instance]def iEL22:=Go.Eng.Es.mk V1
theorem U9:EL prog 27 29 6 48:=⟨_,_,rfl,rfl,rfl,rfl,rfl,rfl,by decide⟩
@[reducible,instance]def iEL27:=Go.Eng.Es.mk U9
theorem c1N:EL prog 32 93 23 240:=⟨_,_,rfl,rfl,rfl,rfl,rfl,rfl,by decide⟩
@[reducible,instance]def iEL32:=Go.Eng.Es.mk c1N
theorem U0:EL prog 33 46 42 504:=⟨_,_,rfl,rfl,rfl,rfl,rfl,rfl,by decide⟩
@[reducible,instance]def iEL33:=Go.Eng.Es.mk U0
theorem c1z:EL prog 34 3 1 8:=⟨_,_,rfl,rfl,rfl,rfl,rfl,rfl,by decide⟩
@[reducible,instance]def iEL34:=Go.Eng.Es.mk c1z
theorem M3:EL prog 38 9 1 16:=⟨_,_,rfl,rfl,rfl,rfl,rfl,rfl,by decide⟩
@[reducible,instance]def iEL38:=Go.Eng.Es.mk M3
theorem a0j:EL prog 39 145 2 40:=⟨_,_,rfl,rfl,rfl,rfl,rfl,rfl,by decide⟩
@[reducible,instance]def iEL39:=Go.Eng.Es.mk a0j
theorem b3l:EL prog 42 95 6 64:=⟨_,_,rfl,rfl,rfl,rfl,rfl,rfl,by decide⟩
@[reducible,instance]def iEL42:=Go.Eng.Es.mk b3l
theorem B3:EL prog 87 116 4 40:=⟨_,_,rfl,rfl,rfl,rfl,rfl,rfl,by decide⟩
@[reducible,instance]def iEL87:=Go.Eng.Es.mk B3
theorem a7r:EL prog 143 26 1 1:=⟨_,_,rfl,rfl,rfl,rfl,rfl,rfl,by decide⟩
@[reducible,instance]def iEL143:=Go.Eng.Es.mk a7r
theorem N0:EL prog 251 87 1 24:=⟨_,_,rfl,rfl,rfl,rfl,rfl,rfl,by decide⟩
@[reducible,instance]def iEL251:=Go.Eng.Es.mk N0
theorem b1C:EL prog 255 91 1 1:=⟨_,_,rfl,rfl,rfl,rfl,rfl,rfl,by decide⟩
@[reducible,instance]def iEL255:=Go.Eng.Es.mk b1C
theorem c9t:EL prog 288 5 1 1:=⟨_,_,rfl,rfl,rfl,rfl,rfl,rfl,by decide⟩
@[reducible,instance]def iEL288:=Go.Eng.Es.mk c9t
theorem c71:EL prog 295 21 1 4:=⟨_,_,rfl,rfl,rfl,rfl,rfl,rfl,by decide⟩
@[reducible,instance]def iEL295:=Go.Eng.Es.mk c71
def c6U:Lv:=[.int .u8 1,str [73,78,84],.int .i64 4,.int .u8 2,str [66,89,84,69],.int .i64 1,.int .u8 3,str [66,79,79,76],.int .i64 1]
def a9f:Lv:=[.int .i64 1,.int .i64 1]
def a8s:Lv:=[.int .i64 1,.int .i64 8]
def c4i:Lv:=[.int .i64 0,.int .i64 2048]
structure Glob(m:View):Prop where
 max:∃x,m.cell ⟨3,0,none⟩=some (.int .i64 x)
 prim:∀j v,c6U[j]?=some v->m.cell ⟨4,j,none⟩=some v
 sOne:∀j v,a9f[j]?=some v->m.cell ⟨1,j,none⟩=some v
 sSome:∀j v,a8s[j]?=some v->m.cell ⟨2,j,none⟩=some v
 sAll:∀j v,c4i[j]?=some v->m.cell ⟨0,j,none⟩=some v
theorem a1U{m:View}(hg:Glob m)(a b:List UInt8)(ha:a.length<4294967281)(h:Lr):CT prog 42 [str a,str b] h m (A5 h (.bool (Lib.contains a b))):=by obtain⟨x,hx⟩:=hg.max;exact CT.ofCalls call42 λw st=>Tryz.strings_Contains ⟨a.toArray⟩ ⟨b.toArray⟩ x w ha (st.cell hx)
end
section
open Go.Eng Go.Lx
theorem a5M(z:Int)(h:Lr)(m:View):CT prog 187 [.int .u8 z] h m (A5 h (.bool (ltr z))):=by
 refine cB [0,2] func187 λ_=>?_;refine ZZ [1,12] ?_;refine zG (λhc=>N3 hc rfl rfl) ?_;refine Z2 ?_;refine wT h ?_;exact⟨rfl,rfl⟩
theorem a9j(z:Int)(h:Lr)(m:View):CT prog 189 [.int .u8 z] h m (A5 h (.bool (dig z))):=by
 refine cB [0,2] func189 λ_=>?_;refine ZZ [1,7,0] ?_;refine wT h ?_;exact⟨rfl,rfl⟩
theorem a7E(s:B)(h:Lr)(m:View)(hs:s.length<=9223372036854775807):CT prog 229 [str s] h m (A5 h (.int .i64 (run s))):=by
 refine cB [0,2,3,5,6,7,26] func229 λ_=>?_;refine ZZ [1,1] ?_;refine xG (G0 uu9 Et) ?_;refine Z1 ?_;refine lI [0,5] (λμ F' h'=>∃k:Nat,(k<=s.length/\run s=k+run (s.drop k))/\s.length-k=μ/\F'=[(6,.int .i64 k)]/\h=h') (s.length-0) [(6,.int .i64 0)] h ⟨0,⟨by omega,by simp⟩,rfl,rfl,rfl⟩ ?_;rintro _ _ _ ⟨k,⟨hk,hJ⟩,rfl,rfl,rfl⟩;refine A9 rfl ?_;refine y4 ?_ ?_<;>intro c7
 obtain⟨c,hc⟩:=A8 (l:=s) (k:=k) (by omega);have hr:=a9e hc;refine ZZ [0,2,2] ?_;refine xG (F3 uu9 Et Et rfl (by assumption)) ?_;refine xf (E1 Et) (a5M _ _ _) ?_;refine kA4 ?_;refine zG (λhc=>F3 uu9 (Eg hc) (Eg hc) rfl (by assumption)) ?_;refine A3 (GU.t rfl rfl) (λhc=>⟨Ef,(E1 (Eg hc)),a9j _ _ _⟩) Lb ?_;refine kA5 ?_;refine zG (λhc=>F3 uu9 (Eg hc) (Eg hc) rfl (by assumption)) ?_;refine y2 ?_ ?_<;>intro c26
 have w:wch c=false:=by unfold wch;rw[c26];rfl
 rw[w]at hr;refine Z2 ?_;refine wT h ?_;exact⟨by simp at hr;rw[hJ,hr];rfl,rfl⟩;have w:wch c=true:=by unfold wch;rw[c26];rfl
 rw[w]at hr;refine ZZ [0,2] ?_;exact WL.nil (lN (s.length-(k+1)) [(6,.int .i64 (k+1))] h ⟨k+1,⟨by omega,by simp at hr;omega⟩,rfl,rfl,rfl⟩);have e:k=s.length:=by omega
 subst e;have hr:run s=s.length:=by simpa [run]using hJ
 refine ZZ [0,1] ?_;refine xG (G0 uu9 Et) ?_;refine Z1 ?_;refine wT h ?_;exact⟨by rw[hr],rfl⟩
theorem a7Y(s:B)(h:Lr)(m:View)(hg:Glob m)(hs:s.length<=140737488355328):CT prog 224 [str s] h m (A5 h (.bool (key s))):=by
 have hs':s.length<=9223372036854775807:=by omega
 refine cB [0,2] func224 λ_=>?_;refine ZZ [1,1] ?_;refine xG (P2 Et Ek) ?_;refine kA2 ?_;refine A3 (GU.t rfl rfl) (λhc=>⟨Ef,(E1 (Eg hc)),a7E _ _ _ (by assumption)⟩) Lb ?_;refine kA1 ?_;refine zG (λhc=>G0 uu9 (Eg hc)) ?_;refine kA4 ?_;refine C2 (GU.t rfl rfl) (λhc=>a0U Ek (Eg hc) (by simp;omega)) Lb ?_;refine C2 (GU.t rfl rfl) (λhc=>a0U (Eg hc) Ek (by simp;omega)) Lb ?_;refine A3 (GU.t rfl rfl) (λhc=>⟨Ef,(E2 Ek (Eg hc)),CT.argsE rfl (a1U hg a7j ([32]++s++[32]) (by decide) _)⟩) Lb ?_;refine Z2 ?_;refine wT h ?_;exact⟨rfl,rfl⟩
theorem a0S(s:B)(h:Lr)(m:View)(hg:Glob m)(hs:s.length<=9223372036854775807):CT prog 155 [str s] h m (A5 h (.bool (name s))):=by
 have hs':s.length<=9223372036854775807:=by omega
 cases s with
 |nil=>
  refine cB [0,2] func155 λ_=>?_;refine ZZ [1,1] ?_;refine xG (P2 Et Ek) ?_;refine kA2 ?_;refine zG (λhc=>G0 uu9 (Eg hc)) ?_;refine kA4 ?_;refine C2 (GU.t rfl rfl) (λhc=>F3 uu9 (Eg hc) Ek (q:=0) rfl (c:=0) (by simp at hc)) Lb ?_;refine A3 (GU.t rfl rfl) (λhc=>⟨Ef,(E1 (Eg hc)),a5M _ _ _⟩) Lb ?_;refine kA3 ?_;refine A3 (GU.t rfl rfl) (λhc=>⟨Ef,(E1 (Eg hc)),a7E _ _ _ (by assumption)⟩) Lb ?_;refine kA1 ?_;refine zG (λhc=>G0 uu9 (Eg hc)) ?_;refine kA4 ?_;refine A3 (GU.t rfl rfl) (λhc=>⟨Ef,(E1 (Eg hc)),a7Y _ _ _ hg (by decide)⟩) Lb ?_;refine Z3 ?_;refine wT h ?_;exact⟨rfl,rfl⟩
 |cons c s=>
  refine cB [0,2] func155 λ_=>?_;refine ZZ [1,1] ?_;refine xG (P2 Et Ek) ?_;refine kA2 ?_;refine zG (λhc=>G0 uu9 (Eg hc)) ?_;refine kA4 ?_;refine zG (λhc=>F3 uu9 (Eg hc) Ek (q:=0) rfl (c:=c) rfl) ?_;refine A3 (GU.t rfl rfl) (λhc=>⟨Ef,(E1 (Eg hc)),a5M _ _ _⟩) Lb ?_;refine kA3 ?_;refine A3 (GU.t rfl rfl) (λhc=>⟨Ef,(E1 (Eg hc)),a7E _ _ _ (by assumption)⟩) Lb ?_;refine kA1 ?_;refine zG (λhc=>G0 uu9 (Eg hc)) ?_;refine kA4 ?_;refine A3 (GU.t rfl rfl) (λhc=>⟨Ef,(E1 (Eg hc)),a7Y _ _ _ hg (by simp at hc;simp;omega)⟩) Lb ?_;refine Z3 ?_;refine wT h ?_;exact⟨rfl,rfl⟩
theorem a4j(z:Int)(h:Lr)(m:View):CT prog 134 [.int .u8 z] h m (A5 h (.bool (b6y z))):=by
 refine cB [0,2] func134 λ_=>?_;refine ZZ [1,12] ?_;refine zG (λhc=>N3 hc rfl rfl) ?_;refine Z2 ?_;refine wT h ?_;exact⟨rfl,rfl⟩
theorem a7T(z:Int)(h:Lr)(m:View):CT prog 137 [.int .u8 z] h m (A5 h (.bool (dig z))):=by
 refine cB [0,2] func137 λ_=>?_;refine ZZ [1,7,0] ?_;refine wT h ?_;exact⟨rfl,rfl⟩
theorem b5d(z:Int)(h:Lr)(m:View):CT prog 133 [.int .u8 z] h m (A5 h (.bool (b2M z))):=by
 refine cB [0,2] func133 λ_=>?_;refine ZZ [1,1] ?_;refine xf (E1 Et) (a4j _ _ _) ?_;refine kA2 ?_;refine A3 (GU.f rfl rfl) (λhc=>⟨Ef,(E1 (Eg hc)),a7T _ _ _⟩) Lb ?_;refine Z6 ?_;refine wT h ?_;exact⟨rfl,rfl⟩
theorem b2a(s:B)(a:Oa)(k c:Nat)(l:List B)(h:Lr)(m:View)(hs:Rd m h a k c 1 (fl encB l)):CT prog 204 [str s,.slice a k c] h m (A5 h (.bool (a4a s l))):=by
 have hl:=hs.lenF C0 (by decide);have hmx:=hs.mx;have hle:=hs.le;refine cB [0,1,4,5,9,17] func204 λ_=>?_;refine ZZ [1,1,0] ?_;refine lI [0,1] (λμ F' h'=>∃j:Nat,(j<=k/\a4a s l=a4a s (l.drop j))/\k-j=μ/\F'=[(5,.int .i64 j)]/\h=h') (k-0) [(5,.int .i64 0)] h ⟨0,⟨by omega,rfl⟩,rfl,rfl,rfl⟩ ?_;rintro _ _ _ ⟨j,⟨hk,hJ⟩,rfl,rfl,rfl⟩;refine A9 rfl ?_;refine Z4 ?_;refine wD ?_ ?_<;>intro c9
 obtain⟨x,hx⟩:=A8 (l:=l) (k:=j) (by omega);rw[b6X s hx]at hJ;refine ZZ [0,5] ?_;refine xG (H0 Et Et) ?_;refine y0 ?_ ?_<;>intro c17
 rw[c17]at hJ;refine Z1 ?_;refine wT h ?_;exact⟨by rw[hJ];rfl,rfl⟩;rw[c17]at hJ;refine ZZ [0,3] ?_;exact WL.nil (lN (k-(j+1)) [(5,.int .i64 (j+1))] h ⟨j+1,⟨by omega,by simpa using hJ⟩,rfl,rfl,rfl⟩);rw[qb (by omega)]at hJ;refine ZZ [0,1,0] ?_;refine wT h ?_;exact⟨by rw[hJ];rfl,rfl⟩
theorem c0Y(h:Lr)(m:View):CT prog 205 [] h m (λv _ h'=>∃b,v=.slice (some ⟨b,0,none⟩) 33 33/\h'=.pt b (.cells (fl encB a9Y).toArray 9 (0,0))::h):=by
 refine cB [0] func205 λ_=>?_;refine Z1 ?_;refine xY M3 Eb λb1=>?_
 refine Z1 ?_;refine wT (.pt b1 (.cells (fl encB a9Y).toArray 9 (0,0))::h) ?_;exact⟨b1,rfl,rfl⟩
theorem a6F(s:B)(h:Lr)(m:View):CT prog 135 [str s] h m (A5 h (.bool (c0e s))):=by
 refine cB [0,2] func135 λ_=>?_;refine ZZ [1,1] ?_;refine xg E0 (c0Y _ _) ?_;rintro _ _ ⟨b4,rfl,rfl⟩;refine xf (E2 Et Et) (b2a _ _ _ _ a9Y _ _ Rr) ?_;refine Z1 ?_;refine wT h ?_;exact⟨rfl,rfl⟩
theorem a1f(s:B)(h:Lr)(m:View)(hs:s.length<=9223372036854775807):CT prog 136 [str s] h m (A5 h (.bool (nameR s))):=by
 have hs':s.length<=9223372036854775807:=by omega
 cases s with
 |nil=>
  refine cB [0,2,21] func136 λ_=>?_;refine ZZ [1,1] ?_;refine xG (G0 uu9 Et) ?_;refine kA3 ?_;refine zG (λhc=>G0 uu9 (Eg hc)) ?_;refine kA4 ?_;refine C2 (GU.f rfl rfl) (λhc=>F3 uu9 (Eg hc) Ek (q:=0) rfl (c:=0) (by simp at hc)) Lb ?_;refine A3 (GU.f rfl rfl) (λhc=>⟨Ef,(E1 (Eg hc)),a4j _ _ _⟩) Lb ?_;refine kA4 ?_;refine A3 (GU.f rfl rfl) (λhc=>⟨Ef,(E1 (Eg hc)),a6F _ _ _⟩) Lb ?_;refine y1 ?_ ?_<;>intro c21
  refine Z1 ?_;refine wT h ?_;exact⟨rfl,rfl⟩;cases c21
 |cons c s=>
  refine cB [0,2,3,21,25,32] func136 λ_=>?_;refine ZZ [1,1] ?_;refine xG (G0 uu9 Et) ?_;refine kA3 ?_;refine zG (λhc=>G0 uu9 (Eg hc)) ?_;refine kA4 ?_;refine zG (λhc=>F3 uu9 (Eg hc) Ek (q:=0) rfl (c:=c) rfl) ?_;refine A3 (GU.f rfl rfl) (λhc=>⟨Ef,(E1 (Eg hc)),a4j _ _ _⟩) Lb ?_;refine kA4 ?_;refine A3 (GU.f rfl rfl) (λhc=>⟨Ef,(E1 (Eg hc)),a6F _ _ _⟩) Lb ?_;refine y1 ?_ ?_<;>intro c21
  have d21:bad (c::s)=true:=c21;refine Z1 ?_;refine wT h ?_;exact⟨by unfold nameR;rw[d21];rfl,rfl⟩;have d21:bad (c::s)=false:=c21;refine ZZ [0,1,0] ?_;refine lI [0] (λμ F' h'=>∃j:Nat,(j<=(c::s).length/\b0B (c::s)=b0B ((c::s).drop j))/\(c::s).length-j=μ/\F'=[(3,.int .i64 j)]/\h=h') ((c::s).length-0) [(3,.int .i64 0)] h ⟨0,⟨by omega,rfl⟩,rfl,rfl,rfl⟩ ?_;rintro _ _ _ ⟨j,⟨hk,hJ⟩,rfl,rfl,rfl⟩;refine A9 rfl ?_;refine kA2 ?_;refine xG (G0 uu9 Et) ?_;refine y4 ?_ ?_<;>intro c25
  obtain⟨x,hx⟩:=A8 (l:=c::s) (k:=j) (by omega);rw[b9D hx]at hJ;refine ZZ [0,2] ?_;refine xG (F3 uu9 Et Et rfl (by assumption)) ?_;refine xf (E1 Et) (b5d _ _ _) ?_;refine y1 ?_ ?_<;>intro c32
  have d32:b2M x.toNat=false:=by simpa using c32
  rw[d32]at hJ;refine Z1 ?_;refine wT h ?_;exact⟨by unfold nameR;rw[d21,hJ];rfl,rfl⟩;have d32:b2M x.toNat=true:=by simpa using c32
  rw[d32]at hJ;refine ZZ [0,3] ?_;exact WL.nil (lN ((c::s).length-(j+1)) [(3,.int .i64 (j+1))] h ⟨j+1,⟨by omega,by simpa using hJ⟩,rfl,rfl,rfl⟩);rw[qb (by omega)]at hJ;refine ZZ [0,1,0] ?_;refine wT h ?_;exact⟨by unfold nameR;rw[d21,hJ];rfl,rfl⟩
end
section
open Go.Eng Go.Xp Go
theorem prim_ct(k:Int)(h:Lr)(m:View):CT prog 288 [.int .u8 k] h m (A5 h (str (L3 k))):=by
 refine cB [0,2,3,4,6,8] func288 λ_=>?_;refine ZZ [1,1,2,0] ?_;refine wE ?_ ?_<;>intro c4
 refine Z1 ?_;refine wT h ?_;exact⟨by unfold L3;rw[if_pos c4],rfl⟩;refine y3 ?_ ?_<;>intro c6
 refine Z1 ?_;refine wT h ?_;exact⟨by unfold L3;rw[if_neg c4,if_pos c6],rfl⟩;refine y3 ?_ ?_<;>intro c8
 refine Z1 ?_;refine wT h ?_;exact⟨by unfold L3;rw[if_neg c4,if_neg c6,if_pos c8],rfl⟩;refine ZZ [0,1,0] ?_;refine wT h ?_;exact⟨by unfold L3;rw[if_neg c4,if_neg c6,if_neg c8],rfl⟩
theorem c9w{o:Int}(h:0<=o/\o<=255):IntKind.i64.wrap o=o:=by rw[IntKind.wrap_i64];omega
theorem a8E(o:Int)(ho:0<=o/\o<=255)(h:Lr)(m:View):CT prog 324 [.int .u8 o] h m (A5 h (.tuple #[str (a0g o).1,.bool (a0g o).2])):=by
 have hw:=c9w ho;refine cB [0,2,3,4,12] func324 λ_=>?_;refine Z2 ?_;refine xG (a5o c1I rfl rfl rfl Eb (by exact rfl)) ?_;refine xW λb4=>?_
 refine ZZ [1,4] ?_;refine zG (λhc=>PO.conv c9b uu3 (Eg hc)) ?_;refine y2 ?_ ?_<;>intro c12
 rw[hw]at c12;refine Z2 ?_;refine w2 h ?_;exact⟨by unfold a0g;rw[if_pos c12],rfl⟩;rw[hw]at c12;have ho2:o<27:=by have:=c9C (a:=true) (b:=decide (o>=27)) (by cases h9:(o==0)<;>simp_all);simpa using this
 have hq:o=(o.toNat:Int):=by omega
 have hv:(a1b.map str)[0+o.toNat*1]?=some (str (a1b.getD o.toNat [])):=by rw[qI,Nat.mul_one,jh,ql,qk (show o.toNat<a1b.length by show o.toNat<27;omega)];rfl
 refine ZZ [0,1] ?_;refine xG (b7X (sz:=1) c1I rfl Et Et (q:=o.toNat) hq (by omega)) ?_;refine xG (C8 uu9 rfl Et (qm _) hv) ?_;refine Z2 ?_;refine w2 h ?_;exact⟨by unfold a0g;rw[if_neg (by rw[c12];decide)],rfl⟩
theorem c1h{m:View}(hg:Glob m)(e:Ex)(hw:Wf e)(h:Lr):CT prog 234 [exV e] h m (A5 h (.tuple #[.int .i64 (F1 e).1,.bool (F1 e).2])):=by
 obtain⟨⟨hk,ho,ht⟩,hn,hs⟩:=hw.spec;have hs2:e.s.length<=9223372036854775807:=by omega
 refine cB [1,2,3,4,9,10,13,18,20,25,27,34,38,39,49,51,60,62,67] func234 λ_=>?_;refine xX λb1=>?_
 refine ZZ [2,1] ?_;refine xW λb4=>?_;refine ZZ [1,4,0] ?_;refine kP2 [1,2,4,9] ?_;refine D6 KKh [4] rfl (λF' h'=>∃nn:Int,∃o':Int,∃t':Int,∃n':Int,∃s':B,(F1 e=(nn,fin o' t' n' s'))/\F'=[(2,.int .i64 nn)]/\.pt b4 (.cells [.int .u8 0,.int .u8 o',.int .u8 t',.int .i32 n',str s',.slice none 0 0].toArray 29 (0,0))::h=h') ?_ ?_;refine y3 ?_ ?_<;>intro c10
 refine kA2 ?_;exact WL.nil (mN [(2,.int .i64 0)] (.pt b4 (.cells [.int .u8 0,.int .u8 (e.o),.int .u8 (e.t),.int .i32 0,str (e.s),.slice none 0 0].toArray 29 (0,0))::h) ⟨0,e.o,e.t,0,e.s,by simp[F1,c10],rfl,rfl⟩);refine y3 ?_ ?_<;>intro c13
 refine kA2 ?_;refine xG (PO.shr Et Ek (by decide)) ?_;refine Z1 ?_;refine wN ?_ ?_<;>intro c18
 refine Z2 ?_;refine w2 h ?_;exact⟨by simp[F1,c13,c18],rfl⟩;refine ZZ [0,2] ?_;exact WL.nil (mN [(2,.int .i64 0)] (.pt b4 (.cells [.int .u8 0,.int .u8 (e.o),.int .u8 (e.t),.int .i32 0,str (e.s),.slice none 0 0].toArray 29 (0,0))::h) ⟨0,e.o,e.t,0,e.s,by simp[F1,c13,c18],rfl,rfl⟩);refine y3 ?_ ?_<;>intro c20
 refine kA2 ?_;refine xG (PO.shr Et Ek (by decide)) ?_;refine Z1 ?_;refine wN ?_ ?_<;>intro c25
 refine Z2 ?_;refine w2 h ?_;exact⟨by simp[F1,c20,c25],rfl⟩;refine ZZ [0,2] ?_;exact WL.nil (mN [(2,.int .i64 0)] (.pt b4 (.cells [.int .u8 0,.int .u8 (e.o),.int .u8 (e.t),.int .i32 0,str (e.s),.slice none 0 0].toArray 29 (0,0))::h) ⟨0,e.o,e.t,0,e.s,by simp[F1,c20,c25],rfl,rfl⟩);refine y2 ?_ ?_<;>intro c27
 have hk4:e.k=4:=b5P c27;refine y0 ?_ ?_<;>intro c27
 refine kA2 ?_;refine xf (E1 Et) (a0S _ _ _ hg (by assumption)) ?_;refine y1 ?_ ?_<;>intro c34
 have hnm:Go.Lx.name e.s=false:=by simpa using c34
 refine Z2 ?_;refine w2 h ?_;exact⟨by first|simp[F1,hk4,hnm]|simp[F1,hk9,hnm]|simp[F1,hk5,hnm],rfl⟩;have hnm:Go.Lx.name e.s=true:=by simpa using c34
 refine ZZ [0,2,3,0] ?_;refine wE ?_ ?_<;>intro c38
 refine kA1 ?_;exact WL.nil (mN [(2,.int .i64 1)] (.pt b4 (.cells [.int .u8 0,.int .u8 (e.o),.int .u8 (e.t),.int .i32 (e.n),str ([]),.slice none 0 0].toArray 29 (0,0))::h) ⟨1,e.o,e.t,e.n,[],by simp[F1,c38,hnm],rfl,rfl⟩);have hq:F1 e=(0,fin e.o e.t e.n []):=by first|exact absurd hk5 c38|simp[F1,hk4,hnm]|simp[F1,hk9,hnm]
 exact WC.skip (mN [(2,.int .i64 0)] (.pt b4 (.cells [.int .u8 0,.int .u8 (e.o),.int .u8 (e.t),.int .i32 (e.n),str ([]),.slice none 0 0].toArray 29 (0,0))::h) ⟨0,e.o,e.t,e.n,[],hq,rfl,rfl⟩);exact absurd hk4 (b2u c27);have n4:e.k≠4:=b2u c27;refine y2 ?_ ?_<;>intro c27
 have hk9:e.k=9:=b5P c27;refine y0 ?_ ?_<;>intro c27
 refine kA2 ?_;refine xf (E1 Et) (a0S _ _ _ hg (by assumption)) ?_;refine y1 ?_ ?_<;>intro c34
 have hnm:Go.Lx.name e.s=false:=by simpa using c34
 refine Z2 ?_;refine w2 h ?_;exact⟨by first|simp[F1,hk4,hnm]|simp[F1,hk9,hnm]|simp[F1,hk5,hnm],rfl⟩;have hnm:Go.Lx.name e.s=true:=by simpa using c34
 refine ZZ [0,2,3,0] ?_;refine wE ?_ ?_<;>intro c38
 refine kA1 ?_;exact WL.nil (mN [(2,.int .i64 1)] (.pt b4 (.cells [.int .u8 0,.int .u8 (e.o),.int .u8 (e.t),.int .i32 (e.n),str ([]),.slice none 0 0].toArray 29 (0,0))::h) ⟨1,e.o,e.t,e.n,[],by simp[F1,c38,hnm],rfl,rfl⟩);have hq:F1 e=(0,fin e.o e.t e.n []):=by first|exact absurd hk5 c38|simp[F1,hk4,hnm]|simp[F1,hk9,hnm]
 exact WC.skip (mN [(2,.int .i64 0)] (.pt b4 (.cells [.int .u8 0,.int .u8 (e.o),.int .u8 (e.t),.int .i32 (e.n),str ([]),.slice none 0 0].toArray 29 (0,0))::h) ⟨0,e.o,e.t,e.n,[],hq,rfl,rfl⟩);exact absurd hk9 (b2u c27);have n9:e.k≠9:=b2u c27;refine y2 ?_ ?_<;>intro c27
 have hk5:e.k=5:=b5P c27;refine kA2 ?_;refine xf (E1 Et) (a0S _ _ _ hg (by assumption)) ?_;refine y1 ?_ ?_<;>intro c34
 have hnm:Go.Lx.name e.s=false:=by simpa using c34
 refine Z2 ?_;refine w2 h ?_;exact⟨by first|simp[F1,hk4,hnm]|simp[F1,hk9,hnm]|simp[F1,hk5,hnm],rfl⟩;have hnm:Go.Lx.name e.s=true:=by simpa using c34
 refine ZZ [0,2,3,0] ?_;refine wE ?_ ?_<;>intro c38
 refine kA1 ?_;exact WL.nil (mN [(2,.int .i64 1)] (.pt b4 (.cells [.int .u8 0,.int .u8 (e.o),.int .u8 (e.t),.int .i32 (e.n),str ([]),.slice none 0 0].toArray 29 (0,0))::h) ⟨1,e.o,e.t,e.n,[],by simp[F1,c38,hnm],rfl,rfl⟩);have hq:F1 e=(0,fin e.o e.t e.n []):=by first|exact absurd hk5 c38|simp[F1,hk4,hnm]|simp[F1,hk9,hnm]
 exact WC.skip (mN [(2,.int .i64 0)] (.pt b4 (.cells [.int .u8 0,.int .u8 (e.o),.int .u8 (e.t),.int .i32 (e.n),str ([]),.slice none 0 0].toArray 29 (0,0))::h) ⟨0,e.o,e.t,e.n,[],hq,rfl,rfl⟩);have n5:e.k≠5:=b2u c27;refine y3 ?_ ?_<;>intro c39
 refine Z9 ?_;refine wc ?_ ?_<;>intro c49
 refine Z2 ?_;refine w2 h ?_;exact⟨by simp only[F1,c39,c49];rfl,rfl⟩;refine ZZ [0,3] ?_;exact WL.nil (mN [(2,.int .i64 1)] (.pt b4 (.cells [.int .u8 0,.int .u8 0,.int .u8 (e.t),.int .i32 (e.n),str (e.s),.slice none 0 0].toArray 29 (0,0))::h) ⟨1,0,e.t,e.n,e.s,by simp only[F1,c39,c49];rfl,rfl,rfl⟩);refine y3 ?_ ?_<;>intro c51
 refine Z8 ?_;refine wc ?_ ?_<;>intro c60
 refine Z2 ?_;refine w2 h ?_;exact⟨by simp only[F1,c51,c60];rfl,rfl⟩;refine ZZ [0,3] ?_;exact WL.nil (mN [(2,.int .i64 2)] (.pt b4 (.cells [.int .u8 0,.int .u8 0,.int .u8 (e.t),.int .i32 (e.n),str (e.s),.slice none 0 0].toArray 29 (0,0))::h) ⟨2,0,e.t,e.n,e.s,by simp only[F1,c51,c60];rfl,rfl,rfl⟩);refine y3 ?_ ?_<;>intro c62
 refine kA2 ?_;refine xf (E1 Et) (prim_ct _ _ _) ?_;refine xG (H0 Et Ek) ?_;refine y0 ?_ ?_<;>intro c67
 refine Z2 ?_;refine w2 h ?_;exact⟨by simp only[F1,c62,c67];rfl,rfl⟩;refine ZZ [0,3] ?_;exact WL.nil (mN [(2,.int .i64 1)] (.pt b4 (.cells [.int .u8 0,.int .u8 (e.o),.int .u8 0,.int .i32 (e.n),str (e.s),.slice none 0 0].toArray 29 (0,0))::h) ⟨1,e.o,0,e.n,e.s,by simp only[F1,c62,c67];rfl,rfl,rfl⟩);refine Z2 ?_;refine w2 h ?_;exact⟨by simp[F1,c10,c13,c20,n4,n9,n5,c39,c51,c62],rfl⟩;rintro _ _ ⟨nn,o',t',n',s',hJ,rfl,rfl⟩;refine A9 rfl ?_;refine jE ?_;refine dS [] (.op 0 (.op 1 (.op 2 (.op 3 (.op 4 (.op 5 (.op 6 (.op 7 (.op 8 (.op 9 (.op 10 (.op 11 (.op 12 (.op 13 (.op 14 (.op 15 (.op 16 (.op 17 (.op 18 (.op 19 .nil)))))))))))))))))))) [20] C9 ?_;refine kA3 ?_;refine yG rfl (O4 Et Ek rfl) ?_;refine kA3 ?_;refine B2 rfl rfl (GU.t rfl rfl) (λhc=>O4 (Eg hc) Ek rfl) Lb ?_;refine kA4 ?_;refine B2 rfl rfl (GU.t rfl rfl) (λhc=>O4 (Eg hc) Ek rfl) Lb ?_;refine kA4 ?_
 refine B2 rfl rfl (GU.t rfl rfl) (λhc=>H0 (Eg hc) Ek) Lb ?_;refine kA1 ?_;refine yG rfl (PO.assign Et) ?_;refine nS ?_;refine Z1 ?_;refine w2 h ?_;exact⟨by rw[hJ];rfl,rfl⟩
abbrev a81(b:Nat)(v:Int):Res:=.pt b (.cells [Value.int .i64 v].toArray 3 (0,0))
abbrev c9u(bl bv:Nat):Res:=.pt bv (.cells [Value.func (.func 233) #[] #[.pointer (some ⟨bl,0,none⟩),.pointer (some ⟨bv,0,none⟩)]].toArray 261 (0,0))
theorem c0B{m:View}(hg:Glob m)(bl bv:Nat)(e:Ex):∀(h:Lr)(deep left:Int),c9u bl bv∈h->TOk m h e->Wf e->(0<=deep/\deep<=33)->(0<=left/\left<=1000000) ->
 CT prog 233 [exV e,.int .i64 deep,.pointer (some ⟨bl,0,none⟩),.pointer (some ⟨bv,0,none⟩)] (a81 bl left::h) m
  (λv _ h'=>∃left',v=.bool (J4 deep left e).isSome/\(∀q,J4 deep left e=some q->left'=q)/\h'=a81 bl left'::h):=by
 refine Ex.ind (p:=λe=>∀(h:Lr)(deep left:Int),c9u bl bv∈h->TOk m h e->Wf e->(0<=deep/\deep<=33)->(0<=left/\left<=1000000) ->
  CT prog 233 [exV e,.int .i64 deep,.pointer (some ⟨bl,0,none⟩),.pointer (some ⟨bv,0,none⟩)] (a81 bl left::h) m
   (λv _ h'=>∃left',v=.bool (J4 deep left e).isSome/\(∀q,J4 deep left e=some q->left'=q)/\h'=a81 bl left'::h)) (λe ih h deep left hv hT hW hd hl=>?_) e
 have hr:=hT.rd;have hmx:=hr.mx;have hkx:=hr.le;have he:=a2p deep left e;refine cB [1,2,3,4,6,7,8,10,34,36,37,38,39,47] func233 λ_=>?_;refine xX λb4=>?_
 refine ZZ [1,1] ?_;refine xf (E1 Et) (c1h hg _ (by assumption) _) ?_;refine ZZ [5,1] ?_;refine xG (P3 Et Ek (by omega)) ?_;refine ZZ [1,3] ?_;refine zG (λ_=>pL uu3) ?_;refine b0g ?_;refine y1 ?_ ?_<;>intro c34
 replace c34:a5k deep left e=true:=c34;rw[c34,if_pos rfl]at he;refine Z1 ?_;refine wT (a81 bl (left-1)::h) ?_;exact⟨_,by rw[he];rfl,by(intro q hq;rw[he]at hq;cases hq),rfl⟩;replace c34:a5k deep left e=false:=c34;rw[c34,if_neg (by decide)]at he;have hb:=a8O c34;refine ZZ [0,4,0] ?_;refine lI [1,3,36,37] (λμ F' h'=>∃k:Nat,∃z:Int,((k<=e.l.length/\0<=z/\z<=left)/\J4 deep left e=a0D (deep+1) z (e.l.drop k))/\e.l.length-k=μ/\F'=[(38,.int .i64 k)]/\.pt b4 (.cells (exE e).toArray 29 (0,0))::a81 bl z::h=h') (e.l.length-0) [(38,.int .i64 0)] (.pt b4 (.cells (exE e).toArray 29 (0,0))::a81 bl (left-1)::h) ⟨0,left-1,⟨⟨by omega,by omega,by omega⟩,he⟩,rfl,rfl,rfl⟩ ?_;rintro _ _ _ ⟨k,z,⟨⟨hk,hz0,hz1⟩,hJ⟩,rfl,rfl,rfl⟩;refine A9 rfl ?_;have hrk:Rd m (.pt b4 (.cells (exE e).toArray 29 (0,0))::a81 bl z::h) e.a e.l.length e.c 6 (fl exE e.l):=hr.mono Vl Sb;refine y4 ?_ ?_<;>intro c39
 obtain⟨x,hx⟩:=A8 (l:=e.l) (k:=k) (by omega);have hxm:=qe hx;rw[b1N hx]at hJ;refine ZZ [0,2] ?_;refine xW λb10=>?_
 refine Z1 ?_;refine xG (C8 c7b rfl Et (qt _ (qt _ (qt _ hv))) rfl) ?_;refine kA3 ?_;refine pD (a81 bl z) ?_;refine F9 (Ev.tmp rfl) (E2 (Ev.tmp rfl) (Ev.tmp rfl)) (ih x hxm _ (deep+1) z (qt _ (qt _ hv)) ((hT.part hxm).mono Sb) (hW.part hxm) (by omega) (by omega)) Lb ?_;rintro _ _ ⟨z46,rfl,y46,rfl⟩;refine pD (.pt b4 _) ?_;refine y1 ?_ ?_<;>intro c47
 have hn:J4 (deep+1) z x=none:=by simpa using c47
 rw[hn]at hJ;refine Z1 ?_;refine wT (a81 bl z46::h) ?_;exact⟨_,by rw[hJ];rfl,by(intro q hq;rw[hJ]at hq;cases hq),rfl⟩;obtain⟨q,hq⟩:∃q,J4 (deep+1) z x=some q:=z6.1 (by simpa using c47);have hq2:=y46 q hq;subst hq2;have hrg:=a3J _ _ _ _ hz0 hq;rw[hq]at hJ;refine ZZ [0,2] ?_;exact WL.nil (lN (e.l.length-(k+1)) [(38,.int .i64 (k+1))] (.pt b4 (.cells (exE e).toArray 29 (0,0))::a81 bl z46::h) ⟨k+1,z46,⟨⟨by omega,by omega,by omega⟩,hJ⟩,rfl,rfl,rfl⟩);rw[qb (by omega)]at hJ;replace hJ:J4 deep left e=some z:=hJ;refine ZZ [0,1,0] ?_;refine wT (a81 bl z::h) ?_;exact⟨_,by rw[hJ];rfl,by(intro q hq;rw[hJ]at hq;cases hq;rfl),rfl⟩
theorem may_ct{m:View}(hg:Glob m)(e:Ex)(h:Lr)(hT:TOk m h e)(hW:Wf e):CT prog 159 [exV e] h m (A5 h (.bool (K0 e))):=by
 refine cB [1,2,3,4] func159 λ_=>?_;refine xX λb1=>?_
 refine Z1 ?_;refine xW λb3=>?_;refine Z1 ?_;refine xW λb4=>?_
 refine Z0 ?_;refine xG (PO.makeFunc Evs.nil (E2 Et Et)) ?_;refine ZZ [1,2] ?_;refine pD (a81 b3 256) ?_;refine F9 (Ev.tmp rfl) (E2 (Ev.tmp rfl) Ek) (c0B hg b3 b4 e _ 1 256 Me (hT.mono Sb) hW (by omega) (by omega)) Lb ?_;rintro _ _ ⟨z8,rfl,y8,rfl⟩;refine Z1 ?_;refine wT h ?_;exact⟨rfl,rfl⟩
end
section
open Go.Eng Go.Xp Go
open Go.Ty (Tok B1 A7 I6)
theorem _root_.Go.Xp.TOk.fr{m:View}{h:Lr}{e:Ex}(q:TOk m h e)(fr:Lr):TOk m (fr++h) e:=q.mono (qc fr h)
theorem a0J(s:B)(h:Lr)(m:View):CT prog 317 [str s] h m (A5 h (I6 (D3 s))):=by
 refine cB [0,2] func317 λ_=>?_;refine xW λb2=>?_
 refine ZZ [0,3,0] ?_;refine wT h (h1:=cA C7) ?_;exact⟨rfl,rfl⟩
theorem a09{m:View}(hg:Glob m)(s:B)(hs:s.length<=140737488355328)(h:Lr):CT prog 300 [str s] h m (A5 h (I6 (F7 s))):=by
 refine cB [0,2,4] func300 λ_=>?_;refine xW λb2=>?_
 refine ZZ [0,1] ?_;refine xf (E1 Et) (a7Y _ _ _ hg (by assumption)) ?_;refine y0 ?_ ?_<;>intro c4
 refine Z3 ?_;refine wT h (h1:=cA C7) ?_;exact⟨by unfold F7;rw[c4];rfl,rfl⟩;refine ZZ [0,1] ?_;refine xf (E1 Et) (a0J _ _ _) ?_;refine Z1 ?_;refine wT h (h1:=cA C7) ?_;exact⟨by unfold F7;rw[c4];rfl,rfl⟩
theorem b4y(o:Int):(a0g o).1.length<=5:=by
 unfold a0g;split
 ·decide
 ·show(a1b.getD o.toNat []).length<=5
  have:∀s∈a1b,s.length<=5:=by decide
  rw[ql];cases h:a1b[o.toNat]? with
  |none=>decide
  |some s=>exact this s (qe h)
theorem a5c{m:View}(hg:Glob m)(o:Int)(ho:0<=o/\o<=255)(h:Lr):CT prog 319 [.int .u8 o] h m (A5 h (I6 (P8 o))):=by
 have hl:=b4y o;refine cB [0,2,3] func319 λ_=>?_;refine xW λb2=>?_
 refine ZZ [0,1] ?_;refine xf (E1 Et) (a8E _ (by assumption) _ _) ?_;refine ZZ [5,1] ?_;refine xf (E1 Et) (a09 hg (a0g o).1 (by omega) _) ?_;refine Z1 ?_;refine wT h (h1:=cA C7) ?_;exact⟨rfl,rfl⟩
theorem b3V(k:Int):(L3 k).length<=4:=by
 unfold L3;repeat' split
 all_goals decide
abbrev WCT(m:View)(e:Ex):Prop:=∀(h:Lr)(xs:Lt)(a:Oa)(c:Nat),TOk m h e->Fine e->Wf e->xs.length+5*a6k e<=1000000 ->
 CT prog 312 [.slice a xs.length c,exV e] (.row (.slice a xs.length c) 116 4 xs.length (fl B1 xs)::h) m (λv _ h'=>b5h B1 116 4 h (xs++C3 e) v h')
theorem a8N{m:View}(e:Ex)(hw:WCT m e)(h:Lr)(xs:Lt)(a:Oa)(c:Nat)(hT:TOk m h e)(hF:Fine e)(hW:Wf e)(hl:xs.length+5*a6k e+2<=1000000) :
 CT prog 321 [.slice a xs.length c,exV e] (.row (.slice a xs.length c) 116 4 xs.length (fl B1 xs)::h) m (λv _ h'=>b5h B1 116 4 h (xs++I9 e) v h'):=by
 have hwl:=a5Z e hF;have hce:=a0y e;have hl1:(xs++[D3 [40]]).length=xs.length+1:=by simp
 have hl2:((xs++[D3 [40]])++C3 e).length=xs.length+1+(C3 e).length:=by simp;omega
 have hl3:(((xs++[D3 [40]])++C3 e)++[D3 [41]]).length=xs.length+2+(C3 e).length:=by simp;omega
 refine cB [0,3,4,6,7] func321 λ_=>?_;refine xX λb3=>?_
 refine ZZ [1,2,2,0] ?_;refine wc ?_ ?_<;>intro c7
 have d6:=c7;refine y0 ?_ ?_<;>intro c7
 have hp:I9 e=D3 [40]::(C3 e++[D3 [41]]):=by unfold I9 a2a par;rw[d6];rfl
 refine jE ?_;refine WC.take (r:=.row _ _ _ _ _) De ?_;refine F4 [1,2,3] (.op 0 (.op 4 (.op 1 (.op 2 (.op 3 .nil))))) [5,6,7,8,9] _ [_] C9 (λ_ _ _ _ _ h=>h) [] (by kernel_rfl) ?_;refine kA2 ?_;refine yf rfl (E1 Ek) (λfr=>a0J _ _ _) ?_;refine sB rfl B3 λb14=>?_;refine Y3 rfl rfl B3 (Ev.tmp rfl) (Ev.tmp rfl) Rr On hl1.symm (D9 (enc:=B1) _ (D3 [40])) (by omega) (by omega) (λv'=>Up) Lb λa15 c15=>?_
 refine nS ?_;refine pD (.row _ _ _ _ _) ?_;refine xg (E2 Et Et) (hw _ (xs++[D3 [40]]) _ _ (hT.mono Sb) hF hW (by omega)) ?_;rintro _ _ ⟨a17,c17,k17,e17,rfl,rfl⟩;refine kR a17 λp17 q17 r17=>?_;subst e17;refine xf (E1 Ek) (a0J _ _ _) ?_;refine xY B3 Eb λb19=>?_
 refine xD B3 (Ev.tmp rfl) (Ev.tmp rfl) (show _=(((xs++[D3 [40]])++C3 e)++[D3 [41]]).length by rw[hl3,hl2];omega) (D9 (enc:=B1) _ (D3 [41])) λa20 c20=>?_;refine Z1 ?_;refine wT (.row (.slice a20 (((xs++[D3 [40]])++C3 e)++[D3 [41]]).length c20) 116 4 (((xs++[D3 [40]])++C3 e)++[D3 [41]]).length (fl B1 (((xs++[D3 [40]])++C3 e)++[D3 [41]]))::h) ?_;rw[show xs++I9 e=((xs++[D3 [40]])++C3 e)++[D3 [41]] by rw[hp];simp];exact⟨_,_,_,rfl,rfl,rfl⟩
 cases d6.symm.trans c7;have d6:=c7;refine y2 ?_ ?_<;>intro c7
 have d7:=c7;refine y0 ?_ ?_<;>intro c7
 have hp:I9 e=D3 [40]::(C3 e++[D3 [41]]):=by unfold I9 a2a par;rw[d6,d7];rfl
 refine jE ?_;refine WC.take (r:=.row _ _ _ _ _) De ?_;refine F4 [1,2,3] (.op 0 (.op 4 (.op 1 (.op 2 (.op 3 .nil))))) [5,6,7,8,9] _ [_] C9 (λ_ _ _ _ _ h=>h) [] (by kernel_rfl) ?_;refine kA2 ?_;refine yf rfl (E1 Ek) (λfr=>a0J _ _ _) ?_;refine sB rfl B3 λb14=>?_;refine Y3 rfl rfl B3 (Ev.tmp rfl) (Ev.tmp rfl) Rr On hl1.symm (D9 (enc:=B1) _ (D3 [40])) (by omega) (by omega) (λv'=>Up) Lb λa15 c15=>?_
 refine nS ?_;refine pD (.row _ _ _ _ _) ?_;refine xg (E2 Et Et) (hw _ (xs++[D3 [40]]) _ _ (hT.mono Sb) hF hW (by omega)) ?_;rintro _ _ ⟨a17,c17,k17,e17,rfl,rfl⟩;refine kR a17 λp17 q17 r17=>?_;subst e17;refine xf (E1 Ek) (a0J _ _ _) ?_;refine xY B3 Eb λb19=>?_
 refine xD B3 (Ev.tmp rfl) (Ev.tmp rfl) (show _=(((xs++[D3 [40]])++C3 e)++[D3 [41]]).length by rw[hl3,hl2];omega) (D9 (enc:=B1) _ (D3 [41])) λa20 c20=>?_;refine Z1 ?_;refine wT (.row (.slice a20 (((xs++[D3 [40]])++C3 e)++[D3 [41]]).length c20) 116 4 (((xs++[D3 [40]])++C3 e)++[D3 [41]]).length (fl B1 (((xs++[D3 [40]])++C3 e)++[D3 [41]]))::h) ?_;rw[show xs++I9 e=((xs++[D3 [40]])++C3 e)++[D3 [41]] by rw[hp];simp];exact⟨_,_,_,rfl,rfl,rfl⟩
 cases d7.symm.trans c7;have d7:=c7;refine y2 ?_ ?_<;>intro c7
 have d8:=c7;refine y0 ?_ ?_<;>intro c7
 have hp:I9 e=D3 [40]::(C3 e++[D3 [41]]):=by unfold I9 a2a par;rw[d6,d7,d8];rfl
 refine jE ?_;refine WC.take (r:=.row _ _ _ _ _) De ?_;refine F4 [1,2,3] (.op 0 (.op 4 (.op 1 (.op 2 (.op 3 .nil))))) [5,6,7,8,9] _ [_] C9 (λ_ _ _ _ _ h=>h) [] (by kernel_rfl) ?_;refine kA2 ?_;refine yf rfl (E1 Ek) (λfr=>a0J _ _ _) ?_;refine sB rfl B3 λb14=>?_;refine Y3 rfl rfl B3 (Ev.tmp rfl) (Ev.tmp rfl) Rr On hl1.symm (D9 (enc:=B1) _ (D3 [40])) (by omega) (by omega) (λv'=>Up) Lb λa15 c15=>?_
 refine nS ?_;refine pD (.row _ _ _ _ _) ?_;refine xg (E2 Et Et) (hw _ (xs++[D3 [40]]) _ _ (hT.mono Sb) hF hW (by omega)) ?_;rintro _ _ ⟨a17,c17,k17,e17,rfl,rfl⟩;refine kR a17 λp17 q17 r17=>?_;subst e17;refine xf (E1 Ek) (a0J _ _ _) ?_;refine xY B3 Eb λb19=>?_
 refine xD B3 (Ev.tmp rfl) (Ev.tmp rfl) (show _=(((xs++[D3 [40]])++C3 e)++[D3 [41]]).length by rw[hl3,hl2];omega) (D9 (enc:=B1) _ (D3 [41])) λa20 c20=>?_;refine Z1 ?_;refine wT (.row (.slice a20 (((xs++[D3 [40]])++C3 e)++[D3 [41]]).length c20) 116 4 (((xs++[D3 [40]])++C3 e)++[D3 [41]]).length (fl B1 (((xs++[D3 [40]])++C3 e)++[D3 [41]]))::h) ?_;rw[show xs++I9 e=((xs++[D3 [40]])++C3 e)++[D3 [41]] by rw[hp];simp];exact⟨_,_,_,rfl,rfl,rfl⟩
 cases d8.symm.trans c7;have d8:=c7;refine y2 ?_ ?_<;>intro c7
 have hp:I9 e=D3 [40]::(C3 e++[D3 [41]]):=by unfold I9 a2a par;rw[d6,d7,d8,c7];rfl
 refine jE ?_;refine WC.take (r:=.row _ _ _ _ _) De ?_;refine F4 [1,2,3] (.op 0 (.op 4 (.op 1 (.op 2 (.op 3 .nil))))) [5,6,7,8,9] _ [_] C9 (λ_ _ _ _ _ h=>h) [] (by kernel_rfl) ?_;refine kA2 ?_;refine yf rfl (E1 Ek) (λfr=>a0J _ _ _) ?_;refine sB rfl B3 λb14=>?_;refine Y3 rfl rfl B3 (Ev.tmp rfl) (Ev.tmp rfl) Rr On hl1.symm (D9 (enc:=B1) _ (D3 [40])) (by omega) (by omega) (λv'=>Up) Lb λa15 c15=>?_
 refine nS ?_;refine pD (.row _ _ _ _ _) ?_;refine xg (E2 Et Et) (hw _ (xs++[D3 [40]]) _ _ (hT.mono Sb) hF hW (by omega)) ?_;rintro _ _ ⟨a17,c17,k17,e17,rfl,rfl⟩;refine kR a17 λp17 q17 r17=>?_;subst e17;refine xf (E1 Ek) (a0J _ _ _) ?_;refine xY B3 Eb λb19=>?_
 refine xD B3 (Ev.tmp rfl) (Ev.tmp rfl) (show _=(((xs++[D3 [40]])++C3 e)++[D3 [41]]).length by rw[hl3,hl2];omega) (D9 (enc:=B1) _ (D3 [41])) λa20 c20=>?_;refine Z1 ?_;refine wT (.row (.slice a20 (((xs++[D3 [40]])++C3 e)++[D3 [41]]).length c20) 116 4 (((xs++[D3 [40]])++C3 e)++[D3 [41]]).length (fl B1 (((xs++[D3 [40]])++C3 e)++[D3 [41]]))::h) ?_;rw[show xs++I9 e=((xs++[D3 [40]])++C3 e)++[D3 [41]] by rw[hp];simp];exact⟨_,_,_,rfl,rfl,rfl⟩
 have hp:I9 e=C3 e:=by unfold I9 a2a par;rw[d6,d7,d8,c7];rfl
 refine ZZ [0,2] ?_;refine pD (.row _ _ _ _ _) ?_;refine xg (E2 Et Et) (hw _ xs _ _ (hT.mono Sb) hF hW (by omega)) ?_;rintro _ _ ⟨a23,c23,k23,e23,rfl,rfl⟩;refine kR a23 λp23 q23 r23=>?_;refine Z1 ?_;refine wT (.row (.slice a23 k23 c23) 116 4 k23 (fl B1 (xs++C3 e))::h) ?_;rw[hp];exact⟨_,_,_,e23,rfl,rfl⟩
theorem c3i{m:View}(hg:Glob m)(e:Ex):WCT m e:=by
 refine Ex.ind (p:=λe=>WCT m e) (λe ih h xs a c hT hF hW hl=>?_) e;obtain⟨⟨hk,ho,ht⟩,hn,hs⟩:=hW.spec;have hce:=a0y e;have hr:=hT.rd;have hkind:=b1K hF;have we:=a4g e;have hl1:∀t:Tok,xs.length+1=(xs++[t]).length:=by simp
 have hl2:∀t u:Tok,xs.length+2=(xs++[t,u]).length:=by simp
 have hlp:=b3V e.t;refine cB [0,3,4,5,10,11,19,27,31,40,46,53,68,81] func312 λ_=>?_;refine xX λb3=>?_
 refine ZZ [1,3] ?_;refine xW λb5=>?_;refine ZZ [1,2,2,0] ?_;refine wE ?_ ?_<;>intro c11
 have we1:C3 e=[b6J e.n]:=by rw[we];simp[wr,c11]
 refine kA4 ?_;refine xY B3 Eb λb17=>?_;have hq:=hl1 (b6J e.n);refine xD B3 (Ev.tmp rfl) (Ev.tmp rfl) hq (D9 (enc:=B1) _ (b6J e.n)) λa18 c18=>?_
 refine Z1 ?_;refine wT (.row (.slice a18 (xs++[b6J e.n]).length c18) 116 4 (xs++[b6J e.n]).length (fl B1 (xs++[b6J e.n]))::h) ?_;rw[we1];exact⟨_,_,_,rfl,rfl,rfl⟩
 refine y3 ?_ ?_<;>intro c19
 have we1:C3 e=[a9T e.n]:=by rw[we];simp[wr,c19]
 refine kA4 ?_;refine xY B3 Eb λb25=>?_;have hq:=hl1 (a9T e.n);refine xD B3 (Ev.tmp rfl) (Ev.tmp rfl) hq (D9 (enc:=B1) _ (a9T e.n)) λa26 c26=>?_
 refine Z1 ?_;refine wT (.row (.slice a26 (xs++[a9T e.n]).length c26) 116 4 (xs++[a9T e.n]).length (fl B1 (xs++[a9T e.n]))::h) ?_;rw[we1];exact⟨_,_,_,rfl,rfl,rfl⟩
 refine y3 ?_ ?_<;>intro c27
 refine Z3 ?_;refine wE ?_ ?_<;>intro c31
 have we1:C3 e=[F7 [70,65,76,83,69]]:=by rw[we];simp[wr,c27,c31]
 refine kA1 ?_;refine xf (E1 Ek) (a09 hg _ (by decide) _) ?_;refine xY B3 Eb λb34=>?_;have hq:=hl1 (F7 [70,65,76,83,69]);refine xD B3 (Ev.tmp rfl) (Ev.tmp rfl) hq (D9 (enc:=B1) _ (F7 [70,65,76,83,69])) λa35 c35=>?_
 refine Z1 ?_;refine wT (.row (.slice a35 (xs++[F7 [70,65,76,83,69]]).length c35) 116 4 (xs++[F7 [70,65,76,83,69]]).length (fl B1 (xs++[F7 [70,65,76,83,69]]))::h) ?_;rw[we1];exact⟨_,_,_,rfl,rfl,rfl⟩
 have we1:C3 e=[F7 [84,82,85,69]]:=by rw[we];simp[wr,c27,c31]
 refine ZZ [0,1] ?_;refine xf (E1 Ek) (a09 hg _ (by decide) _) ?_;refine xY B3 Eb λb38=>?_;have hq:=hl1 (F7 [84,82,85,69]);refine xD B3 (Ev.tmp rfl) (Ev.tmp rfl) hq (D9 (enc:=B1) _ (F7 [84,82,85,69])) λa39 c39=>?_
 refine Z1 ?_;refine wT (.row (.slice a39 (xs++[F7 [84,82,85,69]]).length c39) 116 4 (xs++[F7 [84,82,85,69]]).length (fl B1 (xs++[F7 [84,82,85,69]]))::h) ?_;rw[we1];exact⟨_,_,_,rfl,rfl,rfl⟩
 refine y3 ?_ ?_<;>intro c40
 have we1:C3 e=[E8 e.s]:=by rw[we];simp[wr,c40]
 refine kA2 ?_;refine xY B3 Eb λb44=>?_;have hq:=hl1 (E8 e.s);refine xD B3 (Ev.tmp rfl) (Ev.tmp rfl) hq (D9 (enc:=B1) _ (E8 e.s)) λa45 c45=>?_
 refine Z1 ?_;refine wT (.row (.slice a45 (xs++[E8 e.s]).length c45) 116 4 (xs++[E8 e.s]).length (fl B1 (xs++[E8 e.s]))::h) ?_;rw[we1];exact⟨_,_,_,rfl,rfl,rfl⟩
 refine y3 ?_ ?_<;>intro c46
 have we1:C3 e=[F7 [83,73,90,69],E8 e.s]:=by rw[we];simp[wr,c46]
 refine jE ?_;refine WC.take (r:=.row _ _ _ _ _) De ?_;refine F4 [1] (.op 0 (.op 2 (.op 1 .nil))) [3,4,5] _ [_] C9 (λ_ _ _ _ _ h=>h) [0] (by kernel_rfl) ?_;refine kA2 ?_;refine yf rfl (E1 Ek) (λfr=>a09 hg _ (by decide) _) ?_;refine nS ?_;refine xY B3 Eb λb51=>?_;have hq:=hl2 (F7 [83,73,90,69]) (E8 e.s);refine xD B3 (Ev.tmp rfl) (Ev.tmp rfl) hq (a2F (enc:=B1) xs [F7 [83,73,90,69],E8 e.s]).symm λa52 c52=>?_
 refine Z1 ?_;refine wT (.row (.slice a52 (xs++[F7 [83,73,90,69],E8 e.s]).length c52) 116 4 (xs++[F7 [83,73,90,69],E8 e.s]).length (fl B1 (xs++[F7 [83,73,90,69],E8 e.s]))::h) ?_;rw[we1];exact⟨_,_,_,rfl,rfl,rfl⟩
 refine y3 ?_ ?_<;>intro c53
 obtain⟨x,hx⟩:=a3L hF (.inl c53);have hx0:e.l[0]?=some x:=by rw[hx];rfl
 have hxl:e.l.length=1:=by rw[hx];rfl
 have hxm:x∈e.l:=by rw[hx];exact qm _
 have hcx:a4N e.l=a6k x:=by rw[hx];simp[a4N]
 have we1:xs++C3 e=((xs++[E8 e.s,D3 [91]])++C3 x)++[D3 [93]]:=by rw[we,hx];simp[wr,c53,Y1]
 have hwx:=a5Z x (hF.part hxm);have hl3:((xs++[E8 e.s,D3 [91]])++C3 x).length=xs.length+2+(C3 x).length:=by simp;omega
 have hl4:(((xs++[E8 e.s,D3 [91]])++C3 x)++[D3 [93]]).length=xs.length+3+(C3 x).length:=by simp;omega
 have hl5:=hl2 (E8 e.s) (D3 [91]);refine jE ?_;refine WC.take (r:=.row _ _ _ _ _) De ?_;refine F4 [2,3,4] (.op 0 (.op 1 (.op 5 (.op 6 (.op 7 (.op 8 (.op 2 (.op 3 (.op 4 .nil))))))))) [9,10,11,12,13] _ [_] C9 (λ_ _ _ _ _ h=>h) [] (by kernel_rfl) ?_;refine kA4 ?_;refine yG rfl (D7 U9.und U9.size U9.posz (Ev.tmp rfl) Ek Rr rfl (q:=0) (by omega)) ?_;refine kA1 ?_;refine yf rfl (E1 Ek) (λfr=>a0J _ _ _) ?_;refine sB rfl B3 λb58=>?_;refine Y3 rfl rfl B3 (Ev.tmp rfl) (Ev.tmp rfl) Rr On hl5 (a2F (enc:=B1) xs [E8 e.s,D3 [91]]).symm (by omega) (by omega) (λv'=>Up) Lb λa59 c59=>?_
 refine nS ?_;refine pD (.row _ _ _ _ _) ?_;refine xg (E2 Et Et) (ih x hxm _ (xs++[E8 e.s,D3 [91]]) _ _ ((hT.part hxm).mono Sb) (hF.part hxm) (hW.part hxm) (by omega)) ?_;rintro _ _ ⟨a64,c64,k64,e64,rfl,rfl⟩;refine kR a64 λp64 q64 r64=>?_;subst e64;refine xf (E1 Ek) (a0J _ _ _) ?_;refine xY B3 Eb λb66=>?_
 refine xD B3 (Ev.tmp rfl) (Ev.tmp rfl) (show _=(((xs++[E8 e.s,D3 [91]])++C3 x)++[D3 [93]]).length by rw[hl4,hl3];omega) (D9 (enc:=B1) _ (D3 [93])) λa67 c67=>?_;refine Z1 ?_;refine wT (.row (.slice a67 (((xs++[E8 e.s,D3 [91]])++C3 x)++[D3 [93]]).length c67) 116 4 (((xs++[E8 e.s,D3 [91]])++C3 x)++[D3 [93]]).length (fl B1 (((xs++[E8 e.s,D3 [91]])++C3 x)++[D3 [93]]))::h) ?_;rw[we1];exact⟨_,_,_,rfl,rfl,rfl⟩
 refine y3 ?_ ?_<;>intro c68
 obtain⟨x,hx⟩:=a3L hF (.inr (.inl c68));have hx0:e.l[0]?=some x:=by rw[hx];rfl
 have hxl:e.l.length=1:=by rw[hx];rfl
 have hxm:x∈e.l:=by rw[hx];exact qm _
 have hcx:a4N e.l=a6k x:=by rw[hx];simp[a4N]
 have we1:xs++C3 e=(xs++[P8 e.o])++I9 x:=by rw[we,hx];simp[wr,c68,Y1,I9]
 have hl3:=hl1 (P8 e.o);refine jE ?_;refine WC.take (r:=.row _ _ _ _ _) De ?_;refine F4 [3,4,5] (.op 0 (.op 1 (.op 2 (.op 6 (.op 7 (.op 8 (.op 9 (.op 3 (.op 4 (.op 5 .nil)))))))))) [10,11] _ [_] C9 (λ_ _ _ _ _ h=>h) [] (by kernel_rfl) ?_;refine kA5 ?_;refine yG rfl (D7 U9.und U9.size U9.posz (Ev.tmp rfl) Ek Rr rfl (q:=0) (by omega)) ?_;refine kA1 ?_;refine yf rfl (E1 Et) (λfr=>a5c hg _ (by assumption) _) ?_;refine sB rfl B3 λb74=>?_;refine Y3 rfl rfl B3 (Ev.tmp rfl) (Ev.tmp rfl) Rr On hl3 (D9 (enc:=B1) _ (P8 e.o)) (by omega) (by omega) (λv'=>Up) Lb λa75 c75=>?_
 refine nS ?_;refine pD (.row _ _ _ _ _) ?_;refine xg (E2 Et Et) (a8N x (ih x hxm) _ (xs++[P8 e.o]) _ _ ((hT.part hxm).mono Sb) (hF.part hxm) (hW.part hxm) (by omega)) ?_;rintro _ _ ⟨a80,c80,k80,e80,rfl,rfl⟩;refine kR a80 λp80 q80 r80=>?_;subst e80;refine Z1 ?_;refine wT (.row (.slice a80 ((xs++[P8 e.o])++I9 x).length c80) 116 4 ((xs++[P8 e.o])++I9 x).length (fl B1 ((xs++[P8 e.o])++I9 x))::h) ?_;rw[we1];exact⟨_,_,_,rfl,rfl,rfl⟩
 refine y3 ?_ ?_<;>intro c81
 obtain⟨x,hx⟩:=a3L hF (.inr (.inr c81));have hx0:e.l[0]?=some x:=by rw[hx];rfl
 have hxl:e.l.length=1:=by rw[hx];rfl
 have hxm:x∈e.l:=by rw[hx];exact qm _
 have hcx:a4N e.l=a6k x:=by rw[hx];simp[a4N]
 have we1:xs++C3 e=(xs++[F7 (L3 e.t)])++I9 x:=by rw[we,hx];simp[wr,c81,Y1,I9]
 have hl3:=hl1 (F7 (L3 e.t));refine jE ?_;refine WC.take (r:=.row _ _ _ _ _) De ?_;refine F4 [3,4,5,6] (.op 0 (.op 1 (.op 2 (.op 7 (.op 8 (.op 9 (.op 10 (.op 3 (.op 4 (.op 5 (.op 6 .nil))))))))))) [11,12] _ [_] C9 (λ_ _ _ _ _ h=>h) [] (by kernel_rfl) ?_;refine kA5 ?_;refine yG rfl (D7 U9.und U9.size U9.posz (Ev.tmp rfl) Ek Rr rfl (q:=0) (by omega)) ?_;refine kA1 ?_;refine yf rfl (E1 Et) (λfr=>prim_ct _ _ _) ?_;refine yf rfl (E1 Et) (λfr=>a09 hg (L3 e.t) (by omega) _) ?_;refine sB rfl B3 λb88=>?_;refine Y3 rfl rfl B3 (Ev.tmp rfl) (Ev.tmp rfl) Rr On hl3 (D9 (enc:=B1) _ (F7 (L3 e.t))) (by omega) (by omega) (λv'=>Up) Lb λa89 c89=>?_
 refine nS ?_;refine pD (.row _ _ _ _ _) ?_;refine xg (E2 Et Et) (a8N x (ih x hxm) _ (xs++[F7 (L3 e.t)]) _ _ ((hT.part hxm).mono Sb) (hF.part hxm) (hW.part hxm) (by omega)) ?_;rintro _ _ ⟨a94,c94,k94,e94,rfl,rfl⟩;refine kR a94 λp94 q94 r94=>?_;subst e94;refine Z1 ?_;refine wT (.row (.slice a94 ((xs++[F7 (L3 e.t)])++I9 x).length c94) 116 4 ((xs++[F7 (L3 e.t)])++I9 x).length (fl B1 ((xs++[F7 (L3 e.t)])++I9 x))::h) ?_;rw[we1];exact⟨_,_,_,rfl,rfl,rfl⟩
 have hk7:e.k=7:=by rcases hkind with h|h|h|h|h|h|h|h|h<;>first|exact h|(exfalso;simp_all;done)
 obtain⟨x,y,hx⟩:=b1I hF hk7;have hx0:e.l[0]?=some x:=by rw[hx];rfl
 have hy0:e.l[1]?=some y:=by rw[hx];rfl
 have hxl:e.l.length=2:=by rw[hx];rfl
 have hxm:x∈e.l:=by rw[hx];exact qm _
 have hym:y∈e.l:=by rw[hx];exact qD _ (qm _)
 have hcx:a4N e.l=a6k x+a6k y:=by rw[hx];simp[a4N]
 have we1:xs++C3 e=((xs++I9 x)++[P8 e.o])++I9 y:=by rw[we,hx];simp[wr,hk7,Y1,I9]
 have hwx:=a5Z x (hF.part hxm);have hox:=a3Z (par x.k,C3 x);have hl3:(xs++I9 x).length+1=((xs++I9 x)++[P8 e.o]).length:=(@qh _ (xs++I9 x) [P8 e.o]).symm;have hl4:(xs++I9 x).length<=xs.length+5*a6k x:=by rw[qh];have:(I9 x).length<=(C3 x).length+2:=hox;have:=a0y x;omega
 have hcy:=a0y y;have hcx2:=a0y x;refine WC.skip (kp [0,3] ?_);refine jE ?_;refine WC.take (r:=.row _ _ _ _ _) De ?_;refine F4 [5,8,9,10] (.op 0 (.op 1 (.op 2 (.op 3 (.op 4 (.op 6 (.op 7 (.op 11 (.op 12 (.op 13 (.op 14 (.op 5 (.op 8 (.op 9 (.op 10 .nil))))))))))))))) [15,16] _ [_] C9 (λ_ _ _ _ _ h=>h) [] (by kernel_rfl) ?_;refine kA3 ?_;refine yG rfl (D7 U9.und U9.size U9.posz (Ev.tmp rfl) Ek Rr rfl (q:=0) (by omega)) ?_;refine kA5 ?_;refine yG rfl (D7 U9.und U9.size U9.posz (Ev.tmp rfl) Ek Rr rfl (q:=1) (by omega)) ?_;refine kA1 ?_;refine c3A rfl rfl Ef (E2 Et Et) De (λfr=>a8N x (ih x hxm) _ xs _ _ (TOk.fr ((hT.part hxm).mono Sb) fr) (hF.part hxm) (hW.part hxm) (by omega)) Lb λa100 c100=>?_;refine yf rfl (E1 Et) (λfr=>a5c hg _ (by assumption) _) ?_;refine sB rfl B3 λb104=>?_
 refine Y3 rfl rfl B3 (Ev.tmp rfl) (Ev.tmp rfl) Rr On hl3 (D9 (enc:=B1) _ (P8 e.o)) (by omega) (by omega) (λv'=>Up) Lb λa105 c105=>?_;refine nS ?_;refine pD (.row _ _ _ _ _) ?_;refine xg (E2 Et Et) (a8N y (ih y hym) _ ((xs++I9 x)++[P8 e.o]) _ _ ((hT.part hym).mono Sb) (hF.part hym) (hW.part hym) (by omega)) ?_;rintro _ _ ⟨a110,c110,k110,e110,rfl,rfl⟩;refine kR a110 λp110 q110 r110=>?_
 subst e110;refine Z1 ?_;refine wT (.row (.slice a110 (((xs++I9 x)++[P8 e.o])++I9 y).length c110) 116 4 (((xs++I9 x)++[P8 e.o])++I9 y).length (fl B1 (((xs++I9 x)++[P8 e.o])++I9 y))::h) ?_;rw[we1];exact⟨_,_,_,rfl,rfl,rfl⟩
theorem tokens_ct{m:View}(hg:Glob m)(e:Ex)(h:Lr)(hT:TOk m h e)(hW:Wf e):CT prog 280 [exV e] h m
 (λv _ h'=>(K0 e=true/\∃a c,v=.tuple #[.slice a (C3 e).length c,.int .i64 0]/\h'=.row (.slice a (C3 e).length c) 116 4 (C3 e).length (fl B1 (C3 e))::h)\/(K0 e=false/\v=.tuple #[.slice none 0 0,.int .i64 2]/\h'=h)):=by
 refine cB [1,2,3,6] func280 λ_=>?_;refine xX λb1=>?_
 refine ZZ [2,1] ?_;refine xf (E1 Et) (may_ct hg e _ (hT.mono Sb) hW) ?_;refine y1 ?_ ?_<;>intro c6
 have d6:K0 e=false:=by simpa using c6
 refine Z2 ?_;refine w2 h ?_;exact .inr ⟨d6,rfl,rfl⟩;have d6:K0 e=true:=by simpa using c6
 obtain⟨hF,hc⟩:=b3H d6;refine ZZ [0,1] ?_;refine WL.addNil 116 4 ?_;refine xg (E2 Ek Et) (c3i hg e _ [] none 0 (hT.mono Sb) hF hW (by simp;omega)) ?_;rintro _ _ ⟨a8,c8,k8,e8,rfl,rfl⟩;refine kR a8 λp8 q8 r8=>?_;subst e8;refine Z2 ?_;refine w2 (.row (.slice a8 (C3 e).length c8) 116 4 (C3 e).length (fl B1 (C3 e))::h) ?_;exact .inl ⟨d6,_,_,rfl,rfl⟩
end
section
open Go.Eng Go.Lx Go.Ty
theorem c5G{s:B}(h1:((s.length:Int)==1)=false)(h2:((s.length:Int)==2)=false):sym s=false:=by
 match s with
 | []=>rfl
 | [a]=>simp at h1
 | [a,b]=>simp at h2
 |a::b::c::s=>rfl
theorem c6h{s:B}(h:((s.length:Int)==1)=true):∃a,s=[a]:=by
 match s with
 | []=>simp at h
 | [a]=>exact⟨a,rfl⟩
 |a::b::s=>simp at h;omega
theorem c5S{s:B}(h:((s.length:Int)==2)=true):∃a b,s=[a,b]:=by
 match s with
 | []=>simp at h
 | [a]=>simp at h
 | [a,b]=>exact⟨a,b,rfl⟩
 |a::b::c::s=>simp at h;omega
theorem b3U(s:B)(h:Lr)(m:View)(hg:Glob m):CT prog 268 [str s] h m (A5 h (.bool (sym s))):=by
 refine cB [0,2,4,5,9] func268 λ_=>?_;refine ZZ [1,1] ?_;refine xG (G0 uu9 Et) ?_;refine ZZ [0,2,0] ?_;refine wc ?_ ?_<;>intro c5
 obtain⟨a,rfl⟩:=c6h c5;refine kA1 ?_;refine xf (E2 Ek Et) (CT.argsE rfl (a1U hg b3L [a] (by decide) _)) ?_;refine Z1 ?_;refine wT h ?_;exact⟨rfl,rfl⟩;refine y2 ?_ ?_<;>intro c9
 obtain⟨a,b,rfl⟩:=c5S c9;refine kA1 ?_;refine xG (F3 uu9 Et Ek (q:=0) rfl (c:=a) rfl) ?_;refine kA3 ?_;refine zG (λhc=>F3 uu9 (Eg hc) Ek (q:=1) rfl (c:=b) rfl) ?_;refine kA4 ?_;refine C2 (GU.t rfl rfl) (λhc=>a0U Ek (Eg hc) (by simp)) Lb ?_;refine C2 (GU.t rfl rfl) (λhc=>a0U (Eg hc) Ek (by simp)) Lb ?_;refine A3 (GU.t rfl rfl) (λhc=>⟨Ef,(E2 Ek (Eg hc)),CT.argsE rfl (a1U hg a5f ([32]++[a,b]++[32]) (by decide) _)⟩) Lb ?_;refine Z2 ?_;refine wT h ?_;exact⟨rfl,rfl⟩;refine ZZ [0,1,0] ?_;refine wT h ?_;exact⟨by rw[c5G c5 c9],rfl⟩
theorem b4e(t:Tok)(h:Lr)(m:View)(hg:Glob m)(hs:t.text.length<=140737488355328):CT prog 282 [I6 t] h m (A5 h (.bool (mayK t))):=by
 have hs':t.text.length<=9223372036854775807:=by omega
 refine cB [1,2,10,12,13,23,33,43] func282 λ_=>?_;refine xX λb1=>?_
 refine ZZ [1,8,0] ?_;refine wc ?_ ?_<;>intro c10
 have d:mayK t=false:=by unfold mayK;rw[c10];rfl
 refine Z1 ?_;refine wT h ?_;rw[d];exact⟨rfl,rfl⟩
 refine ZZ [0,2,2,0] ?_;refine wc ?_ ?_<;>intro c13
 refine kA6 ?_;refine A3 (GU.t rfl rfl) (λhc=>⟨Ef,(E1 (Eg hc)),a0S _ _ _ hg (by assumption)⟩) Lb ?_;refine Z2 ?_;refine wT h ?_;exact⟨by unfold mayK;rw[c10,c13];rfl,rfl⟩;refine y2 ?_ ?_<;>intro c23
 refine kA6 ?_;refine A3 (GU.t rfl rfl) (λhc=>⟨Ef,(E1 (Eg hc)),a7Y _ _ _ hg (by assumption)⟩) Lb ?_;refine Z2 ?_;refine wT h ?_;exact⟨by unfold mayK;rw[c10,c13,c23];rfl,rfl⟩;refine y2 ?_ ?_<;>intro c33
 refine kA6 ?_;refine A3 (GU.t rfl rfl) (λhc=>⟨Ef,(E1 (Eg hc)),b3U _ _ _ hg⟩) Lb ?_;refine Z2 ?_;refine wT h ?_;exact⟨by unfold mayK;rw[c10,c13,c23,c33];rfl,rfl⟩;refine y2 ?_ ?_<;>intro c43
 refine kA2 ?_;refine xG (H0 Et Ek) ?_;refine Z11 ?_;refine wT h ?_;exact⟨by unfold mayK;rw[c10,c13,c23,c33,c43];rfl,rfl⟩;refine ZZ [0,6] ?_;refine zG (λhc=>H0 (Eg hc) Ek) ?_;refine Z2 ?_;refine wT h ?_;exact⟨by unfold mayK;rw[c10,c13,c23,c33,c43];rfl,rfl⟩
abbrev rdr(b:Nat)(line:B)(p:Nat):Res:=.pt b (.cells [str line,Value.int .i64 p].toArray 176 (0,0))
theorem a2d(b:Nat)(line:B)(p:Nat)(h:Lr)(m:View)(hr:rdr b line p∈h)(hp:p<=line.length):CT prog 265 [.pointer (some ⟨b,0,none⟩)] h m (A5 h (str (line.drop p))):=by
 refine cB [0,2] func265 λ_=>?_;refine Z1 ?_;refine dS [] (.op 0 (.op 1 (.op 2 (.op 3 (.op 4 (.op 5 (.op 6 (.op 7 .nil)))))))) [8,9] C9 ?_;refine kA3 ?_;refine yG rfl (C8 uu9 rfl Et hr rfl) ?_;refine kA3 ?_;refine yG rfl (C8 uu3 rfl Et hr rfl) ?_;refine nS ?_;refine xG (a2L uu9 Et Et rfl (by omega)) ?_;refine Z1 ?_;refine wT h ?_;exact⟨rfl,rfl⟩
abbrev tkR(p:Tok×Nat):Value:=.tuple #[I6 p.1,.int .i64 p.2]
theorem c00(b:Nat)(line:B)(p:Nat)(h:Lr)(m:View)(hg:Glob m)(hr:rdr b line p∈h)(hp:p<=line.length)(hs:line.length<=140737488355328):CT prog 188 [.pointer (some ⟨b,0,none⟩)] h m (A5 h (tkR (a3C (line.drop p)))):=by
 have hl:(line.drop p).length<=140737488355328:=by rw[qx];omega
 have hl':(line.drop p).length<=9223372036854775807:=by omega
 have hrun:=a4Q (line.drop p);have hlt:((line.drop p).take (run (line.drop p))).length<=140737488355328:=by rw[qV];omega
 have hlt':((line.drop p).take (run (line.drop p))).length<=9223372036854775807:=by omega
 refine cB [0,2,3,4,5,13,19] func188 λ_=>?_;refine xW λb2=>?_
 refine ZZ [1,1] ?_;refine xf (E1 Et) (a2d b line p _ _ (qD _ hr) hp) ?_;refine xf (E1 Et) (a7E _ _ _ (by assumption)) ?_;refine ZZ [1,1] ?_;refine xf (E1 Et) (a2d b line p _ _ (qD _ hr) hp) ?_;refine kA1 ?_;refine xG (O6 uu9 Et Et rfl (by omega)) ?_;refine ZZ [1,1] ?_;refine xf (E1 Et) (a7Y _ _ _ hg (by assumption)) ?_;refine y1 ?_ ?_<;>intro c13
 refine Z5 ?_;refine w2 h (h1:=cA C7) ?_;exact⟨by unfold a3C;rw[c13];rfl,rfl⟩;refine Z3 ?_;refine wc ?_ ?_<;>intro c19
 refine Z3 ?_;refine w2 h (h1:=cA C7) ?_;exact⟨by unfold a3C;rw[c13,c19];rfl,rfl⟩;refine ZZ [0,5,0] ?_;refine w2 h (h1:=cA C7) ?_;exact⟨by unfold a3C;rw[c13,c19];rfl,rfl⟩
theorem b3A{b c:Nat}{s:B}{zs:Lv}{e:TypeId}{f:Nat×Nat}{h:Lr}{m:View}(h1:s.length<=c)(h2:c<=9223372036854775807):Rd m (.pt b (.cells (bv s++zs).toArray e f)::h) (some ⟨b,0,none⟩) s.length c 1 (bv s):=
 Rd.ofPtP (by rw[b2I];exact(Nat.mul_one _).symm) h1 h2 (qm _)
theorem b9y(c:UInt8)(l:B)(v:Int):b0T (c::l) v=if !dig c.toNat then none else b0T l (10*v+((c.toNat:Int)-48)):=rfl
theorem p10{v:Int}{k:Nat}(h:v<10^k)(hk:k<=10):v<10000000000:=
 Int.lt_of_lt_of_le h (show(10:Int)^k<=10^10 by exact_mod_cast z3 (by decide) hk)
theorem c6G{c:UInt8}(h:dig c.toNat=true):IntKind.u8.wrap ((c.toNat:Int)-48)=(c.toNat:Int)-48/\0<=(c.toNat:Int)-48/\(c.toNat:Int)-48<10:=by unfold dig at h;simp at h;unfold IntKind.wrap;simp[IntKind.bits,IntKind.signed];omega
theorem b6d{v:Int}(h:0<=v/\v<10):IntKind.i64.wrap v=v:=by unfold IntKind.wrap;simp[IntKind.bits,IntKind.signed];omega
theorem c3X(v:Int):IntKind.i64.wrap (IntKind.i32.wrap v)=IntKind.i32.wrap v:=by unfold IntKind.wrap;simp[IntKind.bits,IntKind.signed];omega
theorem c7x(b:Nat)(line:B)(p:Nat)(h:Lr)(m:View)(hr:rdr b line p∈h)(hp:p<=line.length)(hs:line.length<=140737488355328):CT prog 190 [.pointer (some ⟨b,0,none⟩)] h m (A5 h (tkR (b0o (line.drop p)))):=by
 have hl:(line.drop p).length<=140737488355328:=by rw[qx];omega
 have hl':(line.drop p).length<=9223372036854775807:=by omega
 have hrun:=a4Q (line.drop p);have hlen:((line.drop p).take (run (line.drop p))).length=run (line.drop p):=by rw[qV];omega
 have hlt':((line.drop p).take (run (line.drop p))).length<=9223372036854775807:=by omega
 refine cB [0,2,3,4,5,7,12,18,19,20,21,26,39] func190 λ_=>?_;refine xW λb2=>?_
 refine ZZ [1,1] ?_;refine xf (E1 Et) (a2d b line p _ _ (qD _ hr) hp) ?_;refine xf (E1 Et) (a7E _ _ _ (by assumption)) ?_;refine ZZ [1,2,0] ?_;refine wc ?_ ?_<;>intro c12
 refine Z3 ?_;refine w2 h (h1:=cA C7) ?_;exact⟨by unfold b0o;rw[c12];rfl,rfl⟩;have h10:run (line.drop p)<=10:=by simp at c12;omega
 generalize hs0:(line.drop p).take (run (line.drop p))=s at *;refine ZZ [0,1,1] ?_;refine xf (E1 Et) (a2d b line p _ _ (qD _ hr) hp) ?_;refine kA1 ?_;refine xG (O6 uu9 Et Et rfl (by omega)) ?_;refine WL.val (v':=str s) (congrArg str hs0) ?_;refine a8g uu9 b7v uu5 Et Lb (by assumption) λb18 z18 f18 c18 e18 g18=>?_;refine Z2 ?_;refine lI [2,4,18,19] (λμ F' h'=>∃k:Nat,∃v:Int,((k<=s.length/\b0T s 0=b0T (s.drop k) v)/\0<=v/\v<10^k)/\s.length-k=μ/\F'=[(5,.int .i64 v),(20,.int .i64 k)]/\.pt b18 (.cells (bv s++z18).toArray 5 f18)::.pt b2 (.cells (B1 zeroK).toArray 116 (0,0))::h=h') (s.length-0) [(5,.int .i64 0),(20,.int .i64 0)] (.pt b18 (.cells (bv s++z18).toArray 5 f18)::.pt b2 (.cells (B1 zeroK).toArray 116 (0,0))::h) ⟨0,0,⟨⟨by omega,rfl⟩,by decide,by decide⟩,rfl,rfl,rfl⟩ ?_;rintro _ _ _ ⟨k,v,⟨⟨hk,hJ⟩,hv0,hv1⟩,rfl,rfl,rfl⟩;refine A9 rfl ?_;refine y4 ?_ ?_<;>intro c21
 obtain⟨c,hc⟩:=A8 (l:=s) (k:=k) (by omega);have hv:=p10 hv1 (by omega);have hR:=b3A (b:=b18) (zs:=z18) (e:=5) (f:=f18) (h:=.pt b2 (.cells (B1 zeroK).toArray 116 (0,0))::h) (m:=m) e18 g18;have hd:s.drop k=c::s.drop (k+1):=by rw[qq (by omega),(qd.1 hc).2]
 rw[hd,b9y]at hJ;refine ZZ [0,1] ?_;refine xG (b4j uu5 rfl Rr (Ev.tmp rfl) (by assumption)) ?_;refine ZZ [1,1] ?_;refine xf (E1 Et) (a9j _ _ _) ?_;refine y1 ?_ ?_<;>intro c26
 rw[c26]at hJ;refine Z3 ?_;refine w2 h (h1:=cA C7) ?_;exact⟨by unfold b0o;rw[c12,hs0];simp only[qp,if_false,hJ];rfl,rfl⟩;have d26:dig c.toNat=true:=by simpa using c26
 rw[c26]at hJ;obtain⟨w1,w2,w3⟩:=c6G d26;have hp1:10*v+((c.toNat:Int)-48)<10^(k+1):=by rw[Int.pow_succ];omega
 refine ZZ [0,1] ?_;refine xG (a6G Ek Et (by omega)) ?_;refine kA2 ?_;refine WL.val (v':=.int .u8 ((c.toNat:Int)-48)) (congrArg (Value.int .u8) w1) ?_;refine xG (PO.conv uu5 uu2 Et) ?_;refine WL.val (v':=.int .i64 ((c.toNat:Int)-48)) (congrArg (Value.int .i64) (b6d ⟨w2,w3⟩)) ?_;refine xG (K3 Et Et (by omega)) ?_;refine ZZ [1,2] ?_;exact WL.nil (lN (s.length-(k+1)) [(5,.int .i64 (10*v+((c.toNat:Int)-48))),(20,.int .i64 (k+1))] (.pt b18 (.cells (bv s++z18).toArray 5 f18)::.pt b2 (.cells (B1 zeroK).toArray 116 (0,0))::h) ⟨k+1,10*v+((c.toNat:Int)-48),⟨⟨by omega,by simpa using hJ⟩,by omega,hp1⟩,rfl,rfl,rfl⟩);have hv:=p10 hv1 (by omega);rw[qb (by omega)]at hJ;refine ZZ [0,2] ?_;refine xG (PO.conv uu2 a0R Et) ?_;refine xG (PO.conv a0R uu2 Et) ?_;refine WL.val (v':=.int .i64 (IntKind.i32.wrap v)) (congrArg (Value.int .i64) (c3X v)) ?_
 refine y1 ?_ ?_<;>intro c39
 refine Z3 ?_;refine w2 h (h1:=cA C7) ?_;exact⟨by unfold b0o;rw[c12,hs0];simp only[qp,if_false,hJ,b0T,c39,if_true];rfl,rfl⟩;refine ZZ [0,1] ?_;refine xG (PO.conv uu2 a0R Et) ?_;refine Z4 ?_;refine w2 h (h1:=cA C7) ?_;exact⟨by unfold b0o;rw[c12,hs0];simp only[qp,if_false,hJ,b0T,c39];rfl,rfl⟩
theorem b0E(l:B)(c:UInt8)(h:Lr)(m:View):CT prog 86 [str l,.int .u8 c.toNat] h m (A5 h (.int .i64 (Lib.indexByte l c))):=
 CT.ofCalls call86 λw _=>by
  have:=Tryz.strings_IndexByte ⟨l.toArray⟩ c.toNat w;simpa using this
theorem p16{v:Int}{k:Nat}(h:v<16^k)(hk:k<=7):v<268435456:=
 Int.lt_of_lt_of_le h (show(16:Int)^k<=16^7 by exact_mod_cast z3 (by decide) hk)
theorem c5m{v:Int}(h:0<=v/\v<268435456):c6x .u32 v 4=16*v:=by unfold c6x IntKind.wrap;simp[IntKind.bits,IntKind.signed];omega
theorem a9B{v:Int}(h:0<=v/\v<4294967296):IntKind.u32.wrap v=v:=by unfold IntKind.wrap;simp[IntKind.bits,IntKind.signed];omega
theorem c6s{v d:Int}(hv:0<=v/\v<268435456)(hd:0<=d/\d<16):bor .u32 (16*v) d=16*v+d:=by
 obtain⟨a,rfl⟩:∃a:Nat,v=a:=⟨v.toNat,by omega⟩;obtain⟨b,rfl⟩:∃b:Nat,d=b:=⟨d.toNat,by omega⟩;have e:(BitVec.ofInt 32 (16*(a:Int))|||BitVec.ofInt 32 (b:Int)).toNat=16*a+b:=by rw[show(16*(a:Int))=((16*a:Nat):Int) by simp,BitVec.ofInt_natCast,BitVec.ofInt_natCast,BitVec.toNat_or,BitVec.toNat_ofNat,BitVec.toNat_ofNat,Nat.mod_eq_of_lt (by omega),Nat.mod_eq_of_lt (by omega)];have:=Nat.shiftLeft_add_eq_or_of_lt (b:=b) (i:=4) (by omega) a;rw[Nat.shiftLeft_eq]at this;rw[ji 16 a];exact this.symm
 unfold bor;rw[show IntKind.u32.bits=32 from rfl,e,a9B (by omega)];simp
theorem b9Q(c:UInt8)(l:B)(v:Int):b3T (c::l) v=if decide (a6n c<0)then none else b3T l (16*v+a6n c):=rfl
theorem a5J(c:UInt8):∀l:B,Lib.indexByte l c<=(l.length:Int)-1
 | []=>z4 (-1)
 |b::l=>by
  have ih:=a5J c l;unfold Lib.indexByte;rw[qJ];split
  ·omega
  ·split<;>omega
theorem c4P(c:UInt8):a6n c<16:=by have:=a5J c R4;have e:(R4.length:Int)=16:=rfl;unfold a6n;omega
theorem b7M(s:B)(h:Lr)(m:View)(hs:s.length<=8):CT prog 266 [str s] h m (A5 h (.tuple #[.int .u32 (a1A s).1,.bool (a1A s).2])):=by
 have hs':s.length<=9223372036854775807:=by omega
 refine cB [0,2,3,5,6,8,9,10,11,17] func266 λ_=>?_;refine ZZ [2,1] ?_;refine a8g uu9 b7v uu5 Et Lb (by assumption) λb8 z8 f8 c8 e8 g8=>?_
 refine Z2 ?_;refine lI [0,8,9] (λμ F' h'=>∃k:Nat,∃v:Int,((k<=s.length/\b3T s 0=b3T (s.drop k) v)/\0<=v/\v<16^k)/\s.length-k=μ/\F'=[(2,.int .u32 v),(10,.int .i64 k)]/\.pt b8 (.cells (bv s++z8).toArray 5 f8)::h=h') (s.length-0) [(2,.int .u32 0),(10,.int .i64 0)] (.pt b8 (.cells (bv s++z8).toArray 5 f8)::h) ⟨0,0,⟨⟨by omega,rfl⟩,by decide,by decide⟩,rfl,rfl,rfl⟩ ?_;rintro _ _ _ ⟨k,v,⟨⟨hk,hJ⟩,hv0,hv1⟩,rfl,rfl,rfl⟩;refine A9 rfl ?_;refine y4 ?_ ?_<;>intro c11
 obtain⟨c,hc⟩:=A8 (l:=s) (k:=k) (by omega);have hv:=p16 hv1 (by omega);have hR:=b3A (b:=b8) (zs:=z8) (e:=5) (f:=f8) (h:=h) (m:=m) e8 g8;have hd:s.drop k=c::s.drop (k+1):=by rw[qq (by omega),(qd.1 hc).2]
 rw[hd,b9Q]at hJ;refine ZZ [0,1] ?_;refine xG (b4j uu5 rfl Rr (Ev.tmp rfl) (by assumption)) ?_;refine ZZ [1,1] ?_;refine xf (E2 Ek Et) (CT.argsE rfl (b0E R4 c _ _)) ?_;refine WL.val (v':=.int .i64 (a6n c)) rfl ?_;refine ZZ [1,2,0] ?_;refine wc ?_ ?_<;>intro c17
 rw[c17]at hJ;refine Z2 ?_;refine w2 h ?_;exact⟨by unfold a1A;rw[hJ];rfl,rfl⟩;rw[c17]at hJ;have d17:¬a6n c<0:=dF c17;have dlt:=c4P c;have hp1:16*v+a6n c<16^(k+1):=by rw[Int.pow_succ];omega
 refine ZZ [0,1] ?_;refine xG (PO.shl Et Ek (by decide)) ?_;refine WL.val (v':=.int .u32 (16*v)) (congrArg (Value.int .u32) (c5m ⟨hv0,hv⟩)) ?_;refine kA1 ?_;refine xG (PO.conv uu3 b3z Et) ?_;refine WL.val (v':=.int .u32 (a6n c)) (congrArg (Value.int .u32) (a9B (by omega))) ?_;refine kA1 ?_;refine WL.val (v':=.int .u32 (16*v+a6n c)) (congrArg (Value.int .u32) (c6s ⟨hv0,hv⟩ (by omega))) ?_;refine ZZ [1,2] ?_;exact WL.nil (lN (s.length-(k+1)) [(2,.int .u32 (16*v+a6n c)),(10,.int .i64 (k+1))] (.pt b8 (.cells (bv s++z8).toArray 5 f8)::h) ⟨k+1,16*v+a6n c,⟨⟨by omega,by simpa using hJ⟩,by omega,hp1⟩,rfl,rfl,rfl⟩);rw[qb (by omega)]at hJ;refine ZZ [0,2] ?_;refine xG (P2 Et Ek) ?_;refine Z2 ?_;refine w2 h ?_;exact⟨by unfold a1A;rw[hJ];rfl,rfl⟩
theorem c7C(b:Nat)(line:B)(p:Nat)(h:Lr)(m:View)(hr:rdr b line p∈h)(hp:p<line.length)(hs:line.length<=140737488355328):CT prog 191 [.pointer (some ⟨b,0,none⟩)] h m (A5 h (tkR (b1a (line.drop p)))):=by
 have hl0:(line.drop p).length=line.length-p:=qx;have hl:((line.drop p).drop 1).length<=140737488355328:=by rw[qx];omega
 have hl':((line.drop p).drop 1).length<=9223372036854775807:=by omega
 have hrun:=a4Q ((line.drop p).drop 1);have hlen:((line.drop p).drop 1).length=line.length-p-1:=by rw[qx,hl0]
 refine cB [0,2,3,4,5,6,12,24] func191 λ_=>?_;refine xW λb2=>?_
 refine ZZ [1,1] ?_;refine xf (E1 Et) (a2d b line p _ _ (qD _ hr) (by omega)) ?_;refine xG (a2L uu9 Et Ek (l:=1) rfl (by omega)) ?_;refine xf (E1 Et) (a7E _ _ _ (by assumption)) ?_;refine ZZ [1,2,0] ?_;refine wc ?_ ?_<;>intro c12
 refine Z3 ?_;refine w2 h (h1:=cA C7) ?_;exact⟨by unfold b1a;rw[c12];rfl,rfl⟩;have h8:run ((line.drop p).drop 1)<=8:=by have:=zz c12;omega
 have h8':(((line.drop p).drop 1).take (run ((line.drop p).drop 1))).length<=8:=by rw[qV];omega
 refine ZZ [0,1] ?_;refine xf (E1 Et) (a2d b line p _ _ (qD _ hr) (by omega)) ?_;refine kA1 ?_;refine xG (K3 Ek Et (by omega)) ?_;refine WL.val (v':=.int .i64 ((1+run ((line.drop p).drop 1):Nat):Int)) (congrArg (Value.int .i64) (by omega)) ?_;refine xG (a03 uu9 Et Ek Et (l:=1) rfl rfl (by omega) (by omega)) ?_;refine WL.val (v':=str (((line.drop p).drop 1).take (run ((line.drop p).drop 1)))) (by rw[Nat.add_sub_cancel_left]) ?_;refine xf (E1 Et) (b7M _ _ _ (by assumption)) ?_;refine ZZ [5,2,0] ?_;refine wc ?_ ?_<;>intro c24
 refine Z3 ?_;refine w2 h (h1:=cA C7) ?_;exact⟨by unfold b1a;rw[c12];simp only[qp,if_false,c24,if_true];rfl,rfl⟩;refine ZZ [0,1] ?_;refine xG (PO.conv b3z a0R Et) ?_;refine kA2 ?_;refine xG (K3 Ek Et (by omega)) ?_;refine Z2 ?_;refine w2 h (h1:=cA C7) ?_;exact⟨by unfold b1a;rw[c12];simp only[qp,if_false,c24];rfl,rfl⟩
theorem b3c{s:B}{i:Nat}{c:UInt8}(h:s[i]?=some c):chB s i=(c.toNat:Int):=by unfold chB;rw[ql,h];rfl
theorem b1G{v:Int}(h:0<=v/\v<256):IntKind.i32.wrap v=v:=by unfold IntKind.wrap;simp[IntKind.bits,IntKind.signed];omega
theorem b2J(c:UInt8):IntKind.i32.wrap (c.toNat:Int)=(c.toNat:Int):=b1G ⟨by omega,by have:=c.toNat_lt;omega⟩
theorem c0w{s:B}(h:s.length<=2):0<=(a1A s).1/\(a1A s).1<256:=by
 unfold a1A;rw[a5B];cases hv:a4i 16 s 0 with
 |none=>exact⟨z4 0,show(0:Int)<256 by decide⟩
 |some v=>
  have hb:=a0I (by decide) a2s s 0 v (by decide) hv;have hp:(16:Int)^s.length<=16^2:=by exact_mod_cast z3 (by decide) h
  simp only;omega
theorem c5Z(s:B)(h:Lr)(m:View)(hs:s.length<=9223372036854775807):CT prog 267 [str s] h m (A5 h (.tuple #[.int .i32 (M4 s).1,.int .i64 (M4 s).2])):=by
 match s with
 | []=>
  refine cB [0,2,3,7] func267 λ_=>?_;refine ZZ [2,1] ?_;refine xG (H0 Et Ek) ?_;refine kA2 ?_;refine C2 (GU.f rfl rfl) (λhc=>F3 uu9 (Eg hc) Ek (q:=0) rfl (c:=0) (by simp at hc)) Lb ?_;refine kA4 ?_;refine C2 (GU.f rfl rfl) (λhc=>F3 uu9 (Eg hc) Ek (q:=0) rfl (c:=0) (by simp at hc)) Lb ?_;refine kA4 ?_;refine C2 (GU.f rfl rfl) (λhc=>F3 uu9 (Eg hc) Ek (q:=0) rfl (c:=0) (by simp at hc)) Lb ?_;refine Z3 ?_;refine wc ?_ ?_<;>intro c7
  refine Z2 ?_;refine w2 h ?_;exact⟨rfl,rfl⟩;simp at c7
 |a::t=>
  refine cB [0,2,3,4,5,6,7,25,32,40,51,59] func267 λ_=>?_;refine ZZ [2,1] ?_;refine xG (H0 Et Ek) ?_;refine kA2 ?_;refine zG (λhc=>F3 uu9 (Eg hc) Ek (q:=0) rfl (c:=a) rfl) ?_;refine kA4 ?_;refine zG (λhc=>F3 uu9 (Eg hc) Ek (q:=0) rfl (c:=a) rfl) ?_;refine kA4 ?_;refine zG (λhc=>F3 uu9 (Eg hc) Ek (q:=0) rfl (c:=a) rfl) ?_;refine Z3 ?_;refine wc ?_ ?_<;>intro c7
  have d7:((a::t==[])||decide (chB (a::t) 0<32)||decide (chB (a::t) 0>126)||(chB (a::t) 0==39))=true:=c7;refine Z2 ?_;refine w2 h ?_;exact⟨by unfold M4;rw[d7];rfl,rfl⟩;have d7:((a::t==[])||decide (chB (a::t) 0<32)||decide (chB (a::t) 0>126)||(chB (a::t) 0==39))=false:=c7;refine kA1 ?_;refine xG (F3 uu9 Et Ek (q:=0) rfl (c:=a) rfl) ?_;refine y2 ?_ ?_<;>intro c25
  have d25:(chB (a::t) 0 !=42)=true:=c25;refine kA1 ?_;refine xG (F3 uu9 Et Ek (q:=0) rfl (c:=a) rfl) ?_;refine xG (PO.conv uu5 a0R Et) ?_;refine WL.val (v':=.int .i32 (a.toNat:Int)) (congrArg (Value.int .i32) (b2J a)) ?_;refine Z2 ?_;refine w2 h ?_;exact⟨by unfold M4;rw[d7,d25];rfl,rfl⟩;have d25:(chB (a::t) 0 !=42)=false:=c25;refine kA1 ?_;refine xG (G0 uu9 Et) ?_;refine y2 ?_ ?_<;>intro c32
  refine Z2 ?_;refine w2 h ?_;exact⟨by unfold M4;rw[d7,d25,c32];rfl,rfl⟩;have h2:2<=(a::t).length:=by simp at c32⊢;omega
  obtain⟨c1,hc1⟩:=A8 (l:=a::t) (k:=1) (by omega);have g1:(a::t).getD 1 0=c1:=by rw[ql,hc1];rfl
  refine ZZ [0,1] ?_;refine xG (F3 uu9 Et Ek (q:=1) rfl (by assumption)) ?_;refine xf (E2 Ek Et) (CT.argsE rfl (b0E a7e c1 _ _)) ?_;refine WL.val (v':=.int .i64 (esc c1)) rfl ?_;refine ZZ [1,2,0] ?_;refine wc ?_ ?_<;>intro c40
  have d40:decide (esc ((a::t).getD 1 0)>=0)=true:=by rw[g1];exact c40
  have he0:0<=esc c1:=dT c40;have he1:(esc c1).toNat<7:=by have:=a5J c1 a7e;have e:(a7e.length:Int)=7:=rfl;unfold esc at he0⊢;omega
  obtain⟨x,hx⟩:=A8 (l:=a2N) (k:=(esc c1).toNat) he1;refine kA1 ?_;refine WL.val (v':=.int .i64 ((esc c1).toNat:Int)) (congrArg (Value.int .i64) (by omega)) ?_;refine xG (F3 uu9 Ek Et rfl (by assumption)) ?_;refine xG (PO.conv uu5 a0R Et) ?_;refine WL.val (v':=.int .i32 (x.toNat:Int)) (congrArg (Value.int .i32) (b2J x)) ?_;refine Z2 ?_;refine w2 h ?_;exact⟨by unfold M4;rw[d7,d25,c32,d40,g1,b3c hx];rfl,rfl⟩;have d40:decide (esc ((a::t).getD 1 0)>=0)=false:=by rw[g1];exact c40
  refine ZZ [0,1] ?_;refine xG (F3 uu9 Et Ek (q:=1) rfl (by assumption)) ?_;refine kA3 ?_;refine zG (λhc=>G0 uu9 (Eg hc)) ?_;refine y2 ?_ ?_<;>intro c51
  have d51:((chB (a::t) 1 !=35)||decide (((a::t).length:Int)<4))=true:=by rw[b3c hc1];exact c51
  refine Z2 ?_;refine w2 h ?_;exact⟨by unfold M4;rw[d7,d25,c32,d40,d51];rfl,rfl⟩;have d51:((chB (a::t) 1 !=35)||decide (((a::t).length:Int)<4))=false:=by rw[b3c hc1];exact c51
  have h4:4<=(a::t).length:=by simp at c51⊢;omega
  have hsl:(((a::t).drop 2).take 2).length<=8:=by rw[qV];omega
  have hx:=c0w (s:=((a::t).drop 2).take 2) (by rw[qV];omega);refine ZZ [0,1] ?_;refine xG (a03 uu9 Et Ek Ek (l:=2) (u:=4) rfl rfl (by omega) (by omega)) ?_;refine WL.val (v':=str (((a::t).drop 2).take 2)) rfl ?_;refine xf (E1 Et) (b7M _ _ _ (by assumption)) ?_;refine ZZ [5,2,0] ?_;refine wc ?_ ?_<;>intro c59
  refine Z2 ?_;refine w2 h ?_;exact⟨by unfold M4;rw[d7,d25,c32,d40,d51,c59];rfl,rfl⟩;refine ZZ [0,1] ?_;refine xG (PO.conv b3z a0R Et) ?_;refine WL.val (v':=.int .i32 (a1A (((a::t).drop 2).take 2)).1) (congrArg (Value.int .i32) (b1G hx)) ?_;refine Z2 ?_;refine w2 h ?_;exact⟨by unfold M4;rw[d7,d25,c32,d40,d51,c59];rfl,rfl⟩
end
section
open Go.Eng Go.Xp Go
open Go.Ty (Tok B1 A7 I6)
open Go.Lx (mayK)
theorem a3e{h hs:Lr}(q:h.Sublist hs)(fr:Lr):h.Sublist (fr++hs):=q.trans (qc fr hs)
abbrev H7(b:Nat)(a:Oa)(c:Nat)(ts:Lt)(k:Int)(o:Int):Res:=.pt b (.cells [.slice a ts.length c,.int .i64 k,.int .i64 o].toArray 281 (0,0))
structure Tks(m:View)(h:Lr)(a:Oa)(c:Nat)(ts:Lt):Prop where
 rd:Rd m h a ts.length c 4 (fl B1 ts)
 le:ts.length<=1000000
 tx:∀t∈ts,t.text.length<=140737488355328
theorem Tks.mono{m:View}{h h':Lr}{a:Oa}{c:Nat}{ts:Lt}(q:Tks m h a c ts)(s:h.Sublist h'):Tks m h' a c ts:=⟨q.rd.mono Vl s,q.le,q.tx⟩
theorem U1{m:View}(hg:Glob m)(b:Nat)(a:Oa)(c:Nat)(ts:Lt)(k:Nat)(o:Int)(h:Lr)(hr:H7 b a c ts k o∈h)(hk:Tks m h a c ts):CT prog 299 [.pointer (some ⟨b,0,none⟩)] h m (A5 h (I6 (C1 (ts.drop k)))):=by
 have hrd:=hk.rd;have hle:=hk.le;obtain⟨t,ht⟩:∃t,t=ts.getD k zeroT:=⟨_,rfl⟩;have hel:k<ts.length->ts[k]?=some t:=λhq=>by rw[ht,ql,qk hq];rfl
 have htx:t.text.length<=140737488355328:=by
  rcases ze k ts.length with hq|hq
  ·exact hk.tx t (qe (hel hq))
  ·rw[ht,ql,qS hq];decide
 refine cB [0,2,3,27] func299 λ_=>?_;refine xW λb2=>?_
 refine Z0 ?_;refine dS [] (.op 0 (.op 1 (.op 2 (.op 3 (.op 4 (.op 5 (.op 6 (.op 7 (.op 8 (.op 9 (.op 10 (.op 11 (.op 12 (.op 13 (.op 14 (.op 15 (.op 16 (.op 17 (.op 18 .nil))))))))))))))))))) [19,20,21,22,23] C9 ?_;refine kA3 ?_;refine yG rfl (C8 uu3 rfl Et (qt _ hr) rfl) ?_;refine kA3 ?_;refine yG rfl (C8 a2O rfl Et (qt _ hr) rfl) ?_;refine yG rfl (R8 a2O Et) ?_;refine yG rfl (O4 Et Et rfl) ?_;refine kA1 ?_;refine B2 rfl rfl (GU.f rfl rfl) (λhc=>PO.move Et) Lb ?_;refine B2 rfl rfl (GU.f rfl rfl) (λhc=>PO.nilCheck (Eg hc)) Lb ?_;refine B2 rfl rfl (GU.f rfl rfl) (λhc=>PO.fieldAddr c3O rfl (qf rfl) (Eg hc)) Lb ?_;refine B2 rfl rfl (GU.f rfl rfl) (λhc=>C8 a2O rfl (Eg hc) (qt _ hr) rfl) Lb ?_;refine B2 rfl rfl (GU.f rfl rfl) (λhc=>PO.move Et) Lb ?_
 refine B2 rfl rfl (GU.f rfl rfl) (λhc=>PO.nilCheck (Eg hc)) Lb ?_;refine B2 rfl rfl (GU.f rfl rfl) (λhc=>PO.fieldAddr c3O rfl (qf rfl) (Eg hc)) Lb ?_;refine B2 rfl rfl (GU.f rfl rfl) (λhc=>C8 uu3 rfl (Eg hc) (qt _ hr) rfl) Lb ?_;refine nS ?_;refine C2 (GU.f rfl rfl) (λhc=>D7 B3.und B3.size B3.posz (Eg hc) (Eg hc) Rr rfl (by simp at hc;omega)) Lb ?_;refine C2 (GU.f rfl rfl) (λhc=>a2q C7 rfl rfl A7 Rr (Eg hc) (hel (by simp at hc;omega)) rfl rfl (qu _)) Lb ?_;refine A3 (GU.f rfl rfl) (λhc=>⟨Ef,(E1 (Eg hc)),b4e t _ _ hg htx⟩) Lb ?_;refine y2 ?_ ?_<;>intro c27
 have hz:C1 (ts.drop k)=zeroT:=by
  rcases ze k ts.length with hq|hq
  ·rw[P9 (hel hq),a1z]
   have h1:decide ((k:Int)>=(ts.length:Int))=false:=zd (by omega);rw[h1]at c27;have h2:mayK t=false:=by simpa using c27
   rw[h2];rfl
  ·rw[qb hq];rfl
 refine Z2 ?_;refine wT h (h1:=cA C7) ?_;exact⟨by rw[hz];rfl,rfl⟩;have hq:k<ts.length:=by
  rcases ze k ts.length with hq|hq
  ·exact hq
  ·have h1:decide ((k:Int)>=(ts.length:Int))=true:=zh (by omega)
   rw[h1]at c27;cases c27
 have hx:=hel hq;have hz:C1 (ts.drop k)={ t with at_:=0 }:=by
  have h1:decide ((k:Int)>=(ts.length:Int))=false:=zd (by omega);rw[h1]at c27;have h2:mayK t=true:=by simpa using c27
  rw[P9 hx,a1z,h2];rfl
 refine Z0 ?_;refine dS [10] (.op 0 (.op 1 (.op 2 (.op 3 (.op 4 (.op 5 (.op 6 (.op 7 (.op 8 (.op 9 (.op 10 .nil))))))))))) [11] C9 ?_;refine kA3 ?_;refine yG rfl (C8 a2O rfl Et (qt _ hr) rfl) ?_;refine kA3 ?_;refine yG rfl (C8 uu3 rfl Et (qt _ hr) rfl) ?_;refine kA2 ?_;refine SR.alloc rfl rfl rfl rfl Lb λb3=>?_;refine nS ?_;refine ZZ [1,2,2,0] ?_;refine wT h (h1:=cA C7) ?_;exact⟨by rw[hz];rfl,rfl⟩
abbrev c1O(e:Int):Value:=.iface 277 (.agg #[.int .i64 e])
theorem L7{t u:Tok}(h:Go.Ty.eqK t u=true):t=u:=(Go.Ty.eqK_iff t u).1 h
theorem L6{t u:Tok}(h:Go.Ty.eqK t u=false):t≠u:=λq=>by rw[(Go.Ty.eqK_iff t u).2 q]at h;cases h
theorem M6{k:Nat}{ts:Lt}(h:(C1 (ts.drop k)).kind≠0):k<ts.length:=c4N (b9B h)
theorem b8m{m:View}(hg:Glob m)(b:Nat)(a:Oa)(c:Nat)(ts:Lt)(k:Nat)(o:Int)(u:Tok)(h:Lr)(hk:Tks m h a c ts)(hkl:k<=ts.length) :
 CX prog 323 [.pointer (some ⟨b,0,none⟩),I6 u] (H7 b a c ts k o::h) m (λ_ _ h'=>C1 (ts.drop k)=u/\h'=H7 b a c ts (k+1:Nat) o::h) (λv h'=>C1 (ts.drop k)≠u/\v=c1O 100/\h'=H7 b a c ts k o::h):=by
 have hle:=hk.le;refine xB [0,3,7] func323 λ_=>?_;refine xX λb3=>?_
 refine Z0 ?_;refine dS [1] (.op 0 (.op 2 (.op 1 .nil))) [3] C9 ?_;refine kA2 ?_;refine yf rfl (E1 Et) (λfr=>U1 hg b a c ts k o _ (qE fr Me) (Tks.mono hk (a3e Sb fr))) ?_;refine nS ?_;refine xG (a3j C7 (by kernel_rfl) (by kernel_rfl) Et Et rfl) ?_;refine y0 ?_ ?_<;>intro c7
 have d7:Go.Ty.eqK (C1 (ts.drop k)) u=false:=by have c7':(!Go.Ty.eqK (C1 (ts.drop k)) u)=true:=c7;simpa using c7'
 refine kA1 ?_;refine xG (a0a b2i Et) ?_;refine WL.panic Et (a2G (P:=prog) (fn:=Tryz.f323) (H7 b a c ts k o::h) Vl Sb ?_);exact⟨L6 d7,rfl,rfl⟩;have d7:Go.Ty.eqK (C1 (ts.drop k)) u=true:=by have c7':(!Go.Ty.eqK (C1 (ts.drop k)) u)=false:=c7;simpa using c7'
 refine ZZ [0,8] ?_;refine WL.nil (toX (.inr rfl) (a6p (h':=H7 b a c ts (k+1:Nat) o::h) (.inr rfl) rfl  Vl Sb ?_));exact⟨L7 d7,rfl⟩
theorem b4K(t:Tok)(n o:Nat):opF t (n+1) o=if t=P8 o then o else opF t n (o+1):=rfl
theorem c9I{m:View}(hg:Glob m)(b:Nat)(a:Oa)(c:Nat)(ts:Lt)(k:Nat)(o:Int)(p z:Nat)(hp:p<=z/\z<=100)(h0:p≠0)(h:Lr)(hk:Tks m h a c ts)(hkl:k<=ts.length) :
 CT prog 302 [.pointer (some ⟨b,0,none⟩),.int .u8 p,.int .u8 z] (H7 b a c ts k o::h) m
  (λv _ h'=>v=.int .u8 (opF (C1 (ts.drop k)) (z+1-p) p)/\h'=H7 b a c ts (if opF (C1 (ts.drop k)) (z+1-p) p=0 then k else k+1:Nat) o::h):=by
 have hle:=hk.le;obtain⟨t,ht⟩:∃t,t=C1 (ts.drop k):=⟨_,rfl⟩;refine cB [0,1,2,6,7,8,14,20] func302 λ_=>?_;refine ZZ [1,1] ?_;refine xf (E1 Et) (U1 hg b a c ts k o _ Me (hk.mono Sb)) ?_;refine xW λb7=>?_
 refine kA1 ?_;rw[<-ht];refine ZZ [0,2,0] ?_;refine lI [0,2,7] (λμ F' h'=>∃j:Nat,((p<=j/\j<=z+1)/\opF t (z+1-p) p=opF t (z+1-j) j)/\z+1-j=μ/\F'=[(8,.int .u8 j)]/\.pt b7 (.cells (B1 t).toArray 116 (0,0))::H7 b a c ts k o::h=h') (z+1-p) [(8,.int .u8 p)] (.pt b7 (.cells (B1 t).toArray 116 (0,0))::H7 b a c ts k o::h) ⟨p,⟨⟨by omega,by omega⟩,rfl⟩,rfl,rfl,rfl⟩ ?_;rintro _ _ _ ⟨j,⟨hj,hJ⟩,rfl,rfl,rfl⟩;refine A9 rfl ?_;refine Z3 ?_;refine wD ?_ ?_<;>intro c14
 obtain⟨n,hn⟩:∃n,z+1-j=n+1:=⟨z-j,by omega⟩;have hn2:z+1-(j+1)=n:=by omega
 rw[hn,b4K]at hJ;refine Z0 ?_;refine dS [2] (.op 0 (.op 1 (.op 2 .nil))) [3] C9 ?_;refine kA2 ?_;refine yf rfl (E1 Et) (λfr=>a5c hg j (by omega) _) ?_;refine nS ?_;refine xG (U4 C7 (by kernel_rfl) (by kernel_rfl) Et Et rfl) ?_;refine y0 ?_ ?_<;>intro c20
 have d20:t=P8 j:=L7 c20;rw[if_pos d20]at hJ;refine ZZ [8,2,0] ?_;refine wT (H7 b a c ts (k+1:Nat) o::h) ?_
 (try rw[<-ht]);rw[hJ,if_neg (by omega)];exact⟨rfl,rfl⟩
 have d20:t≠P8 j:=L6 c20;rw[if_neg d20]at hJ;refine ZZ [0,2] ?_;refine WL.val (v':=.int .u8 (j+1:Nat)) (congrArg (Value.int .u8) (by unfold IntKind.wrap;simp[IntKind.bits,IntKind.signed];omega)) ?_;refine kA1 ?_;exact WL.nil (lN (z+1-(j+1)) [(8,.int .u8 (j+1))] (.pt b7 (.cells (B1 t).toArray 116 (0,0))::H7 b a c ts k o::h) ⟨j+1,⟨⟨by omega,by omega⟩,by rw[hn2];exact hJ⟩,rfl,rfl,rfl⟩);rw[show z+1-j=0 by omega]at hJ;replace hJ:opF t (z+1-p) p=0:=hJ;refine ZZ [0,1,0] ?_;refine wT (H7 b a c ts k o::h) ?_
 (try rw[<-ht]);rw[hJ,if_pos rfl];exact⟨rfl,rfl⟩
abbrev d0t(m:View)(b:Nat)(a:Oa)(c:Nat)(ts:Lt)(o:Int)(res:a0E)(v:Value)(hp:Lr):Prop:=
 ∃(x:Ex)(k':Nat)(t:Ex)(bl:Lr),(res=.ok (x,ts.drop k')/\k'<=ts.length)/\v=exV t/\(B5 t=x/\TOk m bl t/\Wf t)/\hp=H7 b a c ts k' o::bl
abbrev d05(b:Nat)(a:Oa)(c:Nat)(ts:Lt)(res:a0E)(v:Value)(h h':Lr):Prop:=
 ∃(e k o:Int),res=.error e/\v=c1O e/\h'=H7 b a c ts k o::h
abbrev PCX(m:View)(f:FuncId)(args:Lv)(b:Nat)(a:Oa)(c:Nat)(ts:Lt)(k:Nat)(o:Int)(res:a0E)(h:Lr):Prop:=
 CX prog f args (H7 b a c ts k o::h) m (λv _ h'=>∃hp,h'=hp++h/\d0t m b a c ts o res v hp) (λv h'=>d05 b a c ts res v h h')
theorem J9(ts:Lt)(k:Nat):(ts.drop k).tail=ts.drop (k+1):=by rw[List.tail_drop]
theorem J2(m:View)(bl:Lr)(k o t n:Int)(s:B):TOk m bl (.mk k o t n s none 0 []):=.mk (Rd.nilF exE 6 m bl) (λ_ hx=>(qn hx).elim)
theorem a6Z{m:View}{bl:Lr}{x:Ex}(q:TOk m bl x)(b:Nat)(k o t n:Int)(s:B):TOk m (.pt b (.cells (exE x).toArray 29 (0,0))::bl) (.mk k o t n s (some ⟨b,0,none⟩) 1 [x]):=
 .mk (Rd.ofPt rfl (by show 1<=_;decide) (qm _)) (λy hy=>by rw[qy]at hy;subst hy;exact q.mono (qo _ _))
theorem b7l{m:View}{bl bl2:Lr}{x y:Ex}(q:TOk m bl x)(r:TOk m bl2 y)(b:Nat)(k o t n:Int)(s:B):TOk m (.pt b (.cells (exE x++exE y).toArray 29 (0,0))::(bl2++bl)) (.mk k o t n s (some ⟨b,0,none⟩) 2 [x,y]):=
 .mk (Rd.ofPt rfl (by show 2<=_;decide) (qm _)) (λz hz=>by
 rcases qQ.1 hz with rfl|hz
 ·exact q.mono ((qc _ _).cons _)
 ·rw[qy]at hz
  subst hz;exact r.mono ((qg _ _).cons _))
theorem b0p{x:Ex}(q:Wf x){k o t n:Int}{s:B}{a:Oa}{c:Nat}(hk:0<=k/\k<=255)(ho:0<=o/\o<=255)(ht:0<=t/\t<=255)(hn:-2147483648<=n/\n<=2147483647)(hs:s.length<=140737488355328):Wf (.mk k o t n s a c [x]):=
 .mk hk ho ht hn hs λy hy=>by rw[qy]at hy;subst hy;exact q
theorem c1M{x y:Ex}(q:Wf x)(r:Wf y){k o t n:Int}{s:B}{a:Oa}{c:Nat}(hk:0<=k/\k<=255)(ho:0<=o/\o<=255)(ht:0<=t/\t<=255)(hn:-2147483648<=n/\n<=2147483647)(hs:s.length<=140737488355328):Wf (.mk k o t n s a c [x,y]):=
 .mk hk ho ht hn hs λz hz=>by
  rcases qQ.1 hz with rfl|hz
  ·exact q
  ·rw[qy]at hz
   subst hz;exact r
theorem Y0{k o t n:Int}{s:B}(hk:0<=k/\k<=255)(ho:0<=o/\o<=255)(ht:0<=t/\t<=255)(hn:-2147483648<=n/\n<=2147483647)(hs:s.length<=140737488355328):Wf (.mk k o t n s none 0 []):=
 .mk hk ho ht hn hs λ_ hx=>(qn hx).elim
section
variable {m:View}(hg:Glob m)(b:Nat)(a:Oa)(c:Nat)(ts:Lt)
abbrev INS(m:View)(b:Nat)(a:Oa)(c:Nat)(ts:Lt)(f:Nat):Prop:=∀(h:Lr)(k:Nat)(o s:B),Tks m h a c ts->k<=ts.length->PCX m 318 [.pointer (some ⟨b,0,none⟩),str o,str s] b a c ts k (32-f) (T9 f o s (ts.drop k)) h
abbrev OPN(m:View)(b:Nat)(a:Oa)(c:Nat)(ts:Lt)(f:Nat):Prop:=∀(h:Lr)(k:Nat),Tks m h a c ts->k<=ts.length->PCX m 301 [.pointer (some ⟨b,0,none⟩)] b a c ts k (32-f) (R0 (T9 f) (ts.drop k)) h
abbrev EXP(m:View)(b:Nat)(a:Oa)(c:Nat)(ts:Lt)(f:Nat):Prop:=∀(h:Lr)(k:Nat),Tks m h a c ts->k<=ts.length->PCX m 252 [.pointer (some ⟨b,0,none⟩)] b a c ts k (32-f) (a1H (T9 f) (ts.drop k)) h
theorem c9f:INS m b a c ts 0:=by
 intro h k o s hk hkl;refine xB [0,1,2,6,12] func318 λ_=>?_;refine xW λb6=>?_
 refine ZZ [0,5,0] ?_;refine wc ?_ ?_<;>intro c12
 replace c12:=b5P c12;refine kA1 ?_;refine xG (a0a b2i Et) ?_;refine WL.panic Et (a2G (P:=prog) (fn:=Tryz.f318) (H7 b a c ts k 32::h) Vl Sb ?_);exact⟨_,_,_,rfl,rfl,rfl⟩;cases c12
include hg
theorem d0a{f:Nat}(hf:f<32)(hE:EXP m b a c ts f):INS m b a c ts (f+1):=by
 intro h k o s hk hkl;have hq:T9 (f+1) o s (ts.drop k)=if C1 (ts.drop k)=D3 o then(match a1H (T9 f) (ts.drop (k+1))with
  | .error e=>.error e
  | .ok (x,r)=>if C1 r=D3 s then .ok (x,r.tail)else .error 100)else .error 100:=by rw[<-J9];rfl
 refine xB [0,1,2,6,7,12] func318 λ_=>?_;refine xW λb6=>?_
 refine ZZ [0,5,0] ?_;refine wE ?_ ?_<;>intro c12
 omega;refine ZZ [0,5] ?_;refine WL.val (v':=.int .i64 (32-(f:Int))) (congrArg (Value.int .i64) (by omega)) ?_;refine ZZ [3,2] ?_;refine xf (E1 Et) (a0J _ _ _) ?_;refine pD (H7 b a c ts k (32-f)) ?_;refine A1 Ef (E2 Et Et) (b8m hg b a c ts k (32-f) (D3 o) _ (hk.mono Sb) hkl) Lb (λv hv hx=>?_) λv25 h25 hr25=>?_
 ·obtain⟨hx1,rfl,rfl⟩:=hx
  rw[if_neg hx1]at hq;exact a2G (P:=prog) (fn:=Tryz.f318) (H7 b a c ts k (32-f)::h) Vl Sb ⟨_,_,_,hq,rfl,rfl⟩
 obtain⟨hn25,rfl⟩:=hr25;refine Z0 ?_;have hkl2:k<ts.length:=M6 (by rw[hn25];exact(by decide:(5:Int)≠0));rw[if_pos hn25]at hq;refine kA1 ?_;refine A1 Ef (E1 Et) (hE _ (k+1) (hk.mono Sb) (by omega)) Lb (λv hv hx=>?_) λv27 h27 hr27=>?_
 ·obtain⟨e,k2,o2,hres,rfl,rfl⟩:=hx
  rw[hres]at hq;exact a2G (P:=prog) (fn:=Tryz.f318) (H7 b a c ts k2 o2::h) Vl Sb ⟨_,_,_,hq,rfl,rfl⟩
 obtain⟨hp27,rfl,x,k2,t,bl,⟨hres,hk2⟩,rfl,⟨hst,hT,hW⟩,rfl⟩:=hr27;refine WL.perm (h':=H7 b a c ts k2 (32-f)::.pt b6 _::(bl++h)) (List.Perm.cons _ qL) ?_;rw[hres]at hq;refine xW λb7=>?_
 refine ZZ [1,2] ?_;refine xf (E1 Et) (a0J _ _ _) ?_;refine pD (H7 b a c ts k2 (32-f)) ?_;refine A1 Ef (E2 Et Et) (b8m hg b a c ts k2 (32-f) (D3 s) _ (hk.mono Sb) hk2) Lb (λv hv hx=>?_) λv31 h31 hr31=>?_
 ·obtain⟨hx1,rfl,rfl⟩:=hx
  replace hq:=hq.trans (if_neg hx1);exact a2G (P:=prog) (fn:=Tryz.f318) (H7 b a c ts k2 (32-f)::h) Vl Sb ⟨_,_,_,hq,rfl,rfl⟩
 obtain⟨hn31,rfl⟩:=hr31;refine Z0 ?_;have hkl3:k2<ts.length:=M6 (by rw[hn31];exact(by decide:(5:Int)≠0));replace hq:=hq.trans (if_pos hn31);rw[J9]at hq;refine kA4 ?_;refine xG (P3 Et Ek (by omega)) ?_;refine WL.val (v':=.int .i64 (32-((f+1:Nat):Int))) (congrArg (Value.int .i64) (by omega)) ?_;refine ZZ [3,2,0] ?_;refine xT (H7 b a c ts (k2+1:Nat) (32-((f+1:Nat):Int))::(bl++h)) (h1:=cA P7) ?_;exact⟨H7 b a c ts (k2+1:Nat) (32-((f+1:Nat):Int))::bl,rfl,x,k2+1,t,bl,⟨hq,by omega⟩,rfl,⟨hst,hT,hW⟩,rfl⟩
theorem opn{f:Nat}(hI:INS m b a c ts f)(htn:∀k,(-2147483648<=(C1 (ts.drop k)).n/\(C1 (ts.drop k)).n<=2147483647)/\(C1 (ts.drop k)).text.length<=140737488355328):OPN m b a c ts f:=by
 intro h k hk hkl;obtain⟨t,ht⟩:∃t,t=C1 (ts.drop k):=⟨_,rfl⟩;have hq:R0 (T9 f) (ts.drop k)=if t.kind=3 then .ok (sx 1 0 0 t.n [] [],ts.drop (k+1))else if t.kind=4 then .ok (sx 2 0 0 t.n [] [],ts.drop (k+1))
  else if t=F7 [70,65,76,83,69]then .ok (sx 3 0 0 0 [] [],ts.drop (k+1))else if t=F7 [84,82,85,69]then .ok (sx 3 0 0 1 [] [],ts.drop (k+1))
  else if t.kind=1 then(if C1 (ts.drop (k+1))=D3 [91]then(match T9 f [91] [93] (ts.drop (k+1))with
   | .ok (x,r)=>.ok (sx 5 0 0 0 t.text [x],r)
   | .error e=>.error e)else .ok (sx 4 0 0 0 t.text [],ts.drop (k+1)))
  else if t=D3 [40]then T9 f [40] [41] (ts.drop k)else .error 100:=by rw[ht,<-J9];rfl
 have hle:=hk.le;obtain⟨htn1,htx1⟩:=htn k;rw[<-ht]at htn1 htx1;refine xB [0,2,3,6,20,34,46,58,72,82] func301 λ_=>?_
 refine xW λb2=>?_;refine ZZ [0,1] ?_;refine xf (E1 Et) (U1 hg b a c ts k (32-f) _ Me (hk.mono Sb)) ?_;refine xW λb3=>?_
 refine kA1 ?_;rw[<-ht];refine ZZ [0,4,0] ?_;refine wE ?_ ?_<;>intro c6
 rw[if_pos c6]at hq;have hkl2:k<ts.length:=M6 (by rw[<-ht,c6];decide);refine ZZ [8,4,0] ?_;refine xT (H7 b a c ts (k+1:Nat) (32-f)::h) (h1:=cA P7) ?_;exact⟨H7 b a c ts (k+1:Nat) (32-f)::[],rfl,_,k+1,.mk 1 0 0 t.n [] none 0 [],[],⟨hq,by omega⟩,rfl,⟨rfl,J2 _ _ _ _ _ _ _,Y0 (by omega) (by omega) (by omega) htn1 (qi _)⟩,rfl⟩;rw[if_neg c6]at hq;refine Z4 ?_;refine wE ?_ ?_<;>intro c20
 rw[if_pos c20]at hq;have hkl2:k<ts.length:=M6 (by rw[<-ht,c20];decide);refine ZZ [8,4,0] ?_;refine xT (H7 b a c ts (k+1:Nat) (32-f)::h) (h1:=cA P7) ?_;exact⟨H7 b a c ts (k+1:Nat) (32-f)::[],rfl,_,k+1,.mk 2 0 0 t.n [] none 0 [],[],⟨hq,by omega⟩,rfl,⟨rfl,J2 _ _ _ _ _ _ _,Y0 (by omega) (by omega) (by omega) htn1 (qi _)⟩,rfl⟩;rw[if_neg c20]at hq;refine jE ?_;refine dS [1] (.op 0 (.op 1 .nil)) [2,3] C9 ?_;refine kA1 ?_;refine yf rfl (E1 Ek) (λfr=>a09 hg _ (by decide) _) ?_;refine nS ?_;refine xG (U4 C7 (by kernel_rfl) (by kernel_rfl) Et Et rfl) ?_;refine y1 ?_ ?_<;>intro c34
 have d34:=L7 c34;rw[if_pos d34]at hq;have hkl2:k<ts.length:=M6 (by rw[<-ht,d34];rcases a1v [70,65,76,83,69]with h|h<;>rw[h]<;>decide);refine ZZ [8,2,0] ?_;refine xT (H7 b a c ts (k+1:Nat) (32-f)::h) (h1:=cA P7) ?_;exact⟨H7 b a c ts (k+1:Nat) (32-f)::[],rfl,_,k+1,.mk 3 0 0 0 [] none 0 [],[],⟨hq,by omega⟩,rfl,⟨rfl,J2 _ _ _ _ _ _ _,Y0 (by omega) (by omega) (by omega) (by omega) (qi _)⟩,rfl⟩;have d34:=L6 c34;rw[if_neg d34]at hq;refine jE ?_;refine dS [1] (.op 0 (.op 1 .nil)) [2,3] C9 ?_;refine kA1 ?_;refine yf rfl (E1 Ek) (λfr=>a09 hg _ (by decide) _) ?_;refine nS ?_;refine xG (U4 C7 (by kernel_rfl) (by kernel_rfl) Et Et rfl) ?_;refine y1 ?_ ?_<;>intro c46
 have d46:=L7 c46;rw[if_pos d46]at hq;have hkl2:k<ts.length:=M6 (by rw[<-ht,d46];rcases a1v [84,82,85,69]with h|h<;>rw[h]<;>decide);refine ZZ [8,2,0] ?_;refine xT (H7 b a c ts (k+1:Nat) (32-f)::h) (h1:=cA P7) ?_;exact⟨H7 b a c ts (k+1:Nat) (32-f)::[],rfl,_,k+1,.mk 3 0 0 1 [] none 0 [],[],⟨hq,by omega⟩,rfl,⟨rfl,J2 _ _ _ _ _ _ _,Y0 (by omega) (by omega) (by omega) (by omega) (qi _)⟩,rfl⟩;have d46:=L6 c46;rw[if_neg d46]at hq;refine Z4 ?_;refine wE ?_ ?_<;>intro c58
 rw[if_pos c58]at hq;have hkl2:k<ts.length:=M6 (by rw[<-ht,c58];decide);refine ZZ [8,1] ?_;refine xf (E1 Et) (U1 hg b a c ts (k+1) (32-f) _ Me (hk.mono Sb)) ?_;refine xf (E1 Ek) (a0J _ _ _) ?_;refine xG (U4 C7 (by kernel_rfl) (by kernel_rfl) Et Et rfl) ?_;refine y0 ?_ ?_<;>intro c72
 have d72:=L7 c72;rw[if_pos d72]at hq;refine jE ?_;refine WC.take (r:=H7 b a c ts (k+1:Nat) (32-f)) De ?_;refine F4 [3,4] (.op 0 (.op 1 (.op 2 (.op 3 (.op 4 .nil))))) [5,6] _ [_] C9 (λ_ _ _ _ _ h=>h) [] (by kernel_rfl) ?_;refine kA3 ?_;refine R7 rfl rfl Ef (E3 Et Ek Ek) (λfr=>hI _ (k+1) [91] [93] (Tks.mono hk (a3e Sb fr)) (by omega)) Lb (λfr v hv hx=>?_) λv76 h76 hr76=>?_
 ·obtain⟨e,k2,o2,hres,rfl,rfl⟩:=hx
  rw[hres]at hq;exact a2G (P:=prog) (fn:=Tryz.f301) (H7 b a c ts k2 o2::h) Vl (List.Sublist.cons_cons _ (a3e Sb fr)) ⟨_,_,_,hq,rfl,rfl⟩
 obtain⟨x,k2,tx,bl,⟨hres,hk2⟩,rfl,⟨hst,hT,hW⟩,rfl⟩:=hr76;rw[hres]at hq;refine sB rfl U9 λb77=>?_
 refine a0V (H:=H7 b a c ts k2 (32-f)::.pt b77 (.cells (exE tx).toArray 29 (0,0))::.pt b3 (.cells (B1 t).toArray 116 (0,0))::.pt b2 (.cells (exE (.mk 0 0 0 0 [] none 0 [])).toArray 29 (0,0))::(bl++h)) rfl ((qF _ _ _).trans (((a0o bl [_,_] h).cons _).cons _)) ?_;refine Z2 ?_;refine xT (H7 b a c ts k2 (32-f)::.pt b77 (.cells (exE tx).toArray 29 (0,0))::(bl++h)) (h1:=cA P7) ?_;exact⟨H7 b a c ts k2 (32-f)::.pt b77 (.cells (exE tx).toArray 29 (0,0))::bl,rfl,_,k2,.mk 5 0 0 0 t.text (some ⟨b77,0,none⟩) 1 [tx],.pt b77 (.cells (exE tx).toArray 29 (0,0))::bl,⟨hq,hk2⟩,rfl,⟨by rw[<-hst];rfl,a6Z hT b77 _ _ _ _ _,b0p hW (by omega) (by omega) (by omega) (by omega) htx1⟩,rfl⟩;have d72:=L6 c72;rw[if_neg d72]at hq;refine ZZ [0,4,0] ?_;refine xT (H7 b a c ts (k+1:Nat) (32-f)::h) (h1:=cA P7) ?_
 exact⟨H7 b a c ts (k+1:Nat) (32-f)::[],rfl,_,k+1,.mk 4 0 0 0 t.text none 0 [],[],⟨hq,by omega⟩,rfl,⟨rfl,J2 _ _ _ _ _ _ _,Y0 (by omega) (by omega) (by omega) (by omega) htx1⟩,rfl⟩;rw[if_neg c58]at hq;refine jE ?_;refine dS [1] (.op 0 (.op 1 .nil)) [2,3] C9 ?_;refine kA1 ?_;refine yf rfl (E1 Ek) (λfr=>a0J _ _ _) ?_;refine nS ?_;refine xG (U4 C7 (by kernel_rfl) (by kernel_rfl) Et Et rfl) ?_;refine y1 ?_ ?_<;>intro c82
 have d82:=L7 c82;rw[if_pos d82]at hq;refine kA1 ?_;refine pD (H7 b a c ts k (32-f)) ?_;refine A1 Ef (E3 Et Ek Ek) (hI _ k [40] [41] (hk.mono Sb) hkl) Lb (λv hv hx=>?_) λv87 h87 hr87=>?_
 ·obtain⟨e,k2,o2,hres,rfl,rfl⟩:=hx
  rw[hres]at hq;exact a2G (P:=prog) (fn:=Tryz.f301) (H7 b a c ts k2 o2::h) Vl Sb ⟨_,_,_,hq,rfl,rfl⟩
 obtain⟨hp87,rfl,x,k2,tx,bl,⟨hres,hk2⟩,rfl,⟨hst,hT,hW⟩,rfl⟩:=hr87;refine WL.perm (h':=H7 b a c ts k2 (32-f)::.pt b3 _::.pt b2 _::(bl++h)) ((a0o bl [_,_] h).cons _) ?_;rw[hres]at hq;refine Z1 ?_;refine xT (H7 b a c ts k2 (32-f)::(bl++h)) (h1:=cA P7) ?_;exact⟨H7 b a c ts k2 (32-f)::bl,rfl,x,k2,tx,bl,⟨hq,hk2⟩,rfl,⟨hst,hT,hW⟩,rfl⟩;have d82:=L6 c82;rw[if_neg d82]at hq;refine ZZ [0,1] ?_;refine xG (a0a b2i Et) ?_;refine WL.panic Et (a2G (P:=prog) (fn:=Tryz.f301) (H7 b a c ts k (32-f)::h) Vl Sb ?_);exact⟨_,_,_,hq,rfl,rfl⟩
end
end
section
open Go.Eng Go.Xp Go
open Go.Ty (Tok B1 A7 I6)
open Go.Lx (mayK)
theorem c3h{m:View}(hg:Glob m)(b:Nat)(a:Oa)(c:Nat)(ts:Lt)(k:Nat)(o:Int)(p z n:Nat)(t:Tok)(hn:z+1-p=n)(ht:t=C1 (ts.drop k))(hp:p<=z/\z<=100)(h0:p≠0)(h:Lr)(hk:Tks m h a c ts)(hkl:k<=ts.length) :
 CT prog 302 [.pointer (some ⟨b,0,none⟩),.int .u8 p,.int .u8 z] (H7 b a c ts k o::h) m
  (λv _ h'=>v=.int .u8 (opF t n p)/\h'=H7 b a c ts (if opF t n p=0 then k else k+1:Nat) o::h):=by
 subst hn ht;exact c9I hg b a c ts k o p z hp h0 h hk hkl
theorem c0D{t:Tok}{i:Nat}(hi:i<3)(hn:∀j<i,t≠F7 (L3 ((j+1:Nat):Int)))(h:t=F7 (L3 ((i+1:Nat):Int))):O1 t=i+1:=by
 unfold O1;match i,hi with
 |0,_=>exact if_pos h
 |1,_=>have n0:t≠F7 (L3 1):=hn 0 (by omega);rw[if_neg n0];exact if_pos h
 |2,_=>have n0:t≠F7 (L3 1):=hn 0 (by omega);have n1:t≠F7 (L3 2):=hn 1 (by omega);rw[if_neg n0,if_neg n1];exact if_pos h
theorem c2m{t:Tok}(hn:∀j<3,t≠F7 (L3 ((j+1:Nat):Int))):O1 t=0:=by have n0:t≠F7 (L3 1):=hn 0 (by omega);have n1:t≠F7 (L3 2):=hn 1 (by omega);unfold O1;rw[if_neg n0,if_neg n1];exact if_neg (hn 2 (by omega))
section
variable {m:View}(hg:Glob m)(b:Nat)(a:Oa)(c:Nat)(ts:Lt)
include hg
theorem exp{f:Nat}(hO:OPN m b a c ts f)(htn:∀k,(C1 (ts.drop k)).text.length<=140737488355328):EXP m b a c ts f:=by
 intro h k hk hkl;obtain⟨t,ht⟩:∃t,t=C1 (ts.drop k):=⟨_,rfl⟩;have hq:a1H (T9 f) (ts.drop k)=if t=F7 [83,73,90,69]then(if(C1 (ts.drop (k+1))).kind=1 then .ok (sx 9 0 0 0 (C1 (ts.drop (k+1))).text [],ts.drop (k+1+1))else .error 100)
  else if O1 t≠0 then unQ (λx=>sx 8 0 (O1 t) 0 [] [x]) (R0 (T9 f) (ts.drop (k+1)))
  else if opF t 4 23≠0 then unQ (λx=>sx 6 (opF t 4 23) 0 0 [] [x]) (R0 (T9 f) (ts.drop (k+1)))
  else match R0 (T9 f) (ts.drop k)with
   | .error e=>.error e
   | .ok (a,r)=>if opF (C1 r) 22 1≠0 then unQ (λb=>sx 7 (opF (C1 r) 22 1) 0 0 [] [a,b]) (R0 (T9 f) r.tail)else .ok (a,r):=by
  rw[ht,<-J9,<-J9,<-J9];rfl
 have hle:=hk.le;refine xB [0,2,3,5,6,7,8,13,25,38,39,40,46,63,74] func252 λ_=>?_;refine xW λb2=>?_
 refine ZZ [0,1] ?_;refine xf (E1 Et) (U1 hg b a c ts k (32-f) _ Me (hk.mono Sb)) ?_;refine xW λb3=>?_;refine kA1 ?_;rw[<-ht];refine Z0 ?_;refine dS [1] (.op 0 (.op 1 .nil)) [2] C9 ?_;refine kA1 ?_;refine yf rfl (E1 Ek) (λfr=>a09 hg _ (by decide) _) ?_;refine nS ?_;refine xG (U4 C7 (by kernel_rfl) (by kernel_rfl) Et Et rfl) ?_;refine y0 ?_ ?_<;>intro c13
 have d13:=L7 c13;rw[if_pos d13]at hq;have hkl2:k<ts.length:=M6 (by rw[<-ht,d13];rcases a1v [83,73,90,69]with h|h<;>rw[h]<;>decide);refine ZZ [8,1] ?_;refine xf (E1 Et) (U1 hg b a c ts (k+1) (32-f) _ Me (hk.mono Sb)) ?_;refine ZZ [1,3,0] ?_;refine wN ?_ ?_<;>intro c25
 rw[if_neg c25]at hq;refine kA1 ?_;refine xG (a0a b2i Et) ?_;refine WL.panic Et (a2G (P:=prog) (fn:=Tryz.f252) (H7 b a c ts (k+1:Nat) (32-f)::h) Vl Sb ?_);exact⟨_,_,_,hq,rfl,rfl⟩;rw[if_pos c25]at hq;have hkl3:k+1<ts.length:=M6 (by rw[c25];decide);refine ZZ [0,8,4,0] ?_;refine xT (H7 b a c ts (k+1+1:Nat) (32-f)::h) (h1:=cA P7) ?_;exact⟨H7 b a c ts (k+1+1:Nat) (32-f)::[],rfl,_,k+1+1,.mk 9 0 0 0 (C1 (ts.drop (k+1))).text none 0 [],[],⟨hq,by omega⟩,rfl,⟨rfl,J2 _ _ _ _ _ _ _,Y0 (by omega) (by omega) (by omega) (by omega) (htn (k+1))⟩,rfl⟩;have d13:=L6 c13;rw[if_neg d13]at hq;refine Z0 ?_;refine xG (a5o c2v rfl rfl rfl Eb (by exact rfl)) ?_;refine Z1 ?_
 refine lI [0,2,3,38] (λμ F' h'=>∃i:Nat,(i<=3/\∀j<i,t≠F7 (L3 ((j+1:Nat):Int)))/\3-i=μ/\F'=[(39,.int .i64 i)]/\.pt b3 (.cells (B1 t).toArray 116 (0,0))::.pt b2 (.cells (exE (.mk 0 0 0 0 [] none 0 [])).toArray 29 (0,0))::H7 b a c ts k (32-f)::h=h') (3-0) [(39,.int .i64 0)] (.pt b3 (.cells (B1 t).toArray 116 (0,0))::.pt b2 (.cells (exE (.mk 0 0 0 0 [] none 0 [])).toArray 29 (0,0))::H7 b a c ts k (32-f)::h) ⟨0,⟨by omega,λj hj=>absurd hj (Nat.not_lt_zero j)⟩,rfl,rfl,rfl⟩ ?_;rintro _ _ _ ⟨i,⟨hi,hJ⟩,rfl,rfl,rfl⟩;refine A9 rfl ?_;refine y4 ?_ ?_<;>intro c40
 have hvi:([.int .u8 1,.int .u8 2,.int .u8 3]:Lv)[i]?=some (.int .u8 ((i+1:Nat):Int)):=by rcases(by omega:i=0\/i=1\/i=2)with rfl|rfl|rfl<;>rfl
 have hpl:=b3V ((i+1:Nat):Int);refine Z0 ?_;refine xG (b6K c2v c8C rfl rfl Et Et rfl (by omega) hvi) ?_;refine Z1 ?_;refine dS [2,3] (.op 0 (.op 1 (.op 2 (.op 3 .nil)))) [4] C9 ?_;refine kA2 ?_;refine yf rfl (E1 Et) (λfr=>prim_ct _ _ _) ?_;refine yf rfl (E1 Et) (λfr=>a09 hg (L3 ((i+1:Nat):Int)) (by omega) _) ?_;refine nS ?_;refine xG (U4 C7 (by kernel_rfl) (by kernel_rfl) Et Et rfl) ?_;refine y0 ?_ ?_<;>intro c46
 have d46:=L7 c46;have hc3:=c0D (by omega) hJ d46;rw[hc3,if_pos (by omega)]at hq;have hkl2:k<ts.length:=M6 (by rw[<-ht,d46];rcases a1v (L3 ((i+1:Nat):Int))with h|h<;>rw[h]<;>decide);refine ZZ [8,2] ?_;refine pD (H7 b a c ts (k+1:Nat) (32-f)) ?_;refine A1 Ef (E1 Et) (hO _ (k+1) (hk.mono Sb) (by omega)) Lb (λv hv hx=>?_) λv56 h56 hr56=>?_
 ·obtain⟨e,k2,o2,hres,rfl,rfl⟩:=hx
  rw[hres]at hq;exact a2G (P:=prog) (fn:=Tryz.f252) (H7 b a c ts k2 o2::h) Vl Sb ⟨_,_,_,hq,rfl,rfl⟩
 obtain⟨hp56,rfl,x,k2,tx,bl,⟨hres,hk2⟩,rfl,⟨hst,hT,hW⟩,rfl⟩:=hr56;refine WL.perm (h':=H7 b a c ts k2 (32-f)::.pt b3 _::.pt b2 _::(bl++h)) ((a0o bl [_,_] h).cons _) ?_;rw[hres]at hq;refine xY U9 Eb λb57=>?_
 refine kA2 ?_;refine pD (H7 b a c ts k2 (32-f)) ?_;refine Z0 ?_;refine xT (H7 b a c ts k2 (32-f)::.pt b57 (.cells (exE tx).toArray 29 (0,0))::(bl++h)) (h1:=cA P7) ?_;exact⟨H7 b a c ts k2 (32-f)::.pt b57 (.cells (exE tx).toArray 29 (0,0))::bl,rfl,_,k2,.mk 8 0 ((i+1:Nat):Int) 0 [] (some ⟨b57,0,none⟩) 1 [tx],.pt b57 (.cells (exE tx).toArray 29 (0,0))::bl,⟨hq,hk2⟩,rfl,⟨by rw[<-hst];rfl,a6Z hT b57 _ _ _ _ _,b0p hW (by omega) (by omega) (by omega) (by omega) (qi _)⟩,rfl⟩;have d46:=L6 c46;have hJ2:∀j<i+1,t≠F7 (L3 ((j+1:Nat):Int)):=λj hj=>by
  rcases z7.1 hj with h|rfl
  ·exact hJ j h
  ·exact d46
 refine ZZ [0,2] ?_;exact WL.nil (lN (3-(i+1)) [(39,.int .i64 (i+1))] (.pt b3 (.cells (B1 t).toArray 116 (0,0))::.pt b2 (.cells (exE (.mk 0 0 0 0 [] none 0 [])).toArray 29 (0,0))::H7 b a c ts k (32-f)::h) ⟨i+1,⟨by omega,hJ2⟩,rfl,rfl,rfl⟩);have hc3:=c2m (t:=t) (λj hj=>hJ j (by omega));rw[hc3,if_neg (by omega)]at hq;refine ZZ [0,1] ?_;refine pD (H7 b a c ts k (32-f)) ?_;refine xg (E3 Et Ek Ek) (c3h hg b a c ts k (32-f) 23 26 4 t rfl ht (by decide) (by decide) _ (hk.mono Sb) hkl) ?_;rintro _ _ ⟨rfl,rfl⟩;refine ZZ [1,2,0] ?_;refine wN ?_ ?_<;>intro c63
 have d63:opF t 4 23≠0:=by omega
 rw[if_pos d63]at hq;rw[if_neg d63];have hkl2:k<ts.length:=M6 (by rw[<-ht];exact a4S d63);have hob:=a9w t 4 23 d63;refine kA2 ?_;refine A1 Ef (E1 Et) (hO _ (k+1) (hk.mono Sb) (by omega)) Lb (λv hv hx=>?_) λv66 h66 hr66=>?_
 ·obtain⟨e,k2,o2,hres,rfl,rfl⟩:=hx
  rw[hres]at hq;exact a2G (P:=prog) (fn:=Tryz.f252) (H7 b a c ts k2 o2::h) Vl Sb ⟨_,_,_,hq,rfl,rfl⟩
 obtain⟨hp66,rfl,x,k2,tx,bl,⟨hres,hk2⟩,rfl,⟨hst,hT,hW⟩,rfl⟩:=hr66;refine WL.perm (h':=H7 b a c ts k2 (32-f)::.pt b3 _::.pt b2 _::(bl++h)) ((a0o bl [_,_] h).cons _) ?_;rw[hres]at hq;refine xY U9 Eb λb67=>?_
 refine kA2 ?_;refine pD (H7 b a c ts k2 (32-f)) ?_;refine Z0 ?_;refine xT (H7 b a c ts k2 (32-f)::.pt b67 (.cells (exE tx).toArray 29 (0,0))::(bl++h)) (h1:=cA P7) ?_;exact⟨H7 b a c ts k2 (32-f)::.pt b67 (.cells (exE tx).toArray 29 (0,0))::bl,rfl,_,k2,.mk 6 (opF t 4 23) 0 0 [] (some ⟨b67,0,none⟩) 1 [tx],.pt b67 (.cells (exE tx).toArray 29 (0,0))::bl,⟨hq,hk2⟩,rfl,⟨by rw[<-hst];rfl,a6Z hT b67 _ _ _ _ _,b0p hW (by omega) (by omega) (by omega) (by omega) (qi _)⟩,rfl⟩;have d63:opF t 4 23=0:=by omega
 rw[if_neg (by omega)]at hq;rw[if_pos d63];refine ZZ [0,1] ?_;refine A1 Ef (E1 Et) (hO _ k (hk.mono Sb) hkl) Lb (λv hv hx=>?_) λv70 h70 hr70=>?_
 ·obtain⟨e,k2,o2,hres,rfl,rfl⟩:=hx
  rw[hres]at hq;exact a2G (P:=prog) (fn:=Tryz.f252) (H7 b a c ts k2 o2::h) Vl Sb ⟨_,_,_,hq,rfl,rfl⟩
 obtain⟨hp70,rfl,x,k2,tx,bl,⟨hres,hk2⟩,rfl,⟨hst,hT,hW⟩,rfl⟩:=hr70;refine WL.perm (h':=H7 b a c ts k2 (32-f)::.pt b3 _::.pt b2 _::(bl++h)) ((a0o bl [_,_] h).cons _) ?_;rw[hres]at hq;refine xW λb7=>?_
 refine ZZ [1,1] ?_;refine pD (H7 b a c ts k2 (32-f)) ?_;obtain⟨t2,ht2⟩:∃t2,t2=C1 (ts.drop k2):=⟨_,rfl⟩;replace hq:=hq.trans (show _=if opF (C1 (ts.drop k2)) 22 1≠0 then unQ (λb=>sx 7 (opF (C1 (ts.drop k2)) 22 1) 0 0 [] [x,b]) (R0 (T9 f) (ts.drop k2).tail)else .ok (x,ts.drop k2) from rfl);rw[<-ht2,J9]at hq;refine xg (E3 Et Ek Ek) (c3h hg b a c ts k2 (32-f) 1 22 22 t2 rfl ht2 (by decide) (by decide) _ (hk.mono Sb) hk2) ?_;rintro _ _ ⟨rfl,rfl⟩;refine ZZ [1,2,0] ?_;refine wN ?_ ?_<;>intro c74
 have d74:opF t2 22 1≠0:=by omega
 rw[if_pos d74]at hq;rw[if_neg d74];have hkl4:k2<ts.length:=M6 (by rw[<-ht2];exact a4S d74);have hob:=a9w t2 22 1 d74;refine jE ?_;refine F4 [3] (.op 0 (.op 1 (.op 2 (.op 3 .nil)))) [4,5,6] _ [_] C9 (λ_ _ _ _ _ h=>h) [0] (by kernel_rfl) ?_;refine kA3 ?_;refine R7 rfl rfl Ef (E1 Et) (λfr=>hO _ (k2+1) (Tks.mono hk (a3e Sb fr)) (by omega)) Lb (λfr v hv hx=>?_) λv78 h78 hr78=>?_
 ·obtain⟨e,k3,o2,hres2,rfl,rfl⟩:=hx
  rw[hres2]at hq;exact a2G (P:=prog) (fn:=Tryz.f252) (H7 b a c ts k3 o2::h) Vl (List.Sublist.cons_cons _ (a3e Sb fr)) ⟨_,_,_,hq,rfl,rfl⟩
 obtain⟨y,k3,ty,bl2,⟨hres2,hk3⟩,rfl,⟨hst2,hT2,hW2⟩,rfl⟩:=hr78;rw[hres2]at hq;refine a0V (H:=H7 b a c ts k3 (32-f)::.pt b7 (.cells (exE tx).toArray 29 (0,0))::.pt b3 (.cells (B1 t).toArray 116 (0,0))::.pt b2 (.cells (exE (.mk 0 0 0 0 [] none 0 [])).toArray 29 (0,0))::((bl2++bl)++h)) rfl (by rw[qj];exact(a0o bl2 [_,_,_] (bl++h)).cons _) ?_;refine xY U9 Eb λb79=>?_
 refine kA2 ?_;refine pD (H7 b a c ts k3 (32-f)) ?_;refine Z0 ?_;refine xT (H7 b a c ts k3 (32-f)::.pt b79 (.cells (exE tx++exE ty).toArray 29 (0,0))::((bl2++bl)++h)) (h1:=cA P7) ?_;exact⟨H7 b a c ts k3 (32-f)::.pt b79 (.cells (exE tx++exE ty).toArray 29 (0,0))::(bl2++bl),rfl,_,k3,.mk 7 (opF t2 22 1) 0 0 [] (some ⟨b79,0,none⟩) 2 [tx,ty],.pt b79 (.cells (exE tx++exE ty).toArray 29 (0,0))::(bl2++bl),⟨hq,hk3⟩,rfl,⟨by rw[<-hst,<-hst2];rfl,b7l hT hT2 b79 _ _ _ _ _,c1M hW hW2 (by omega) (by omega) (by omega) (by omega) (qi _)⟩,rfl⟩;have d74:opF t2 22 1=0:=by omega
 rw[if_neg (by omega)]at hq;rw[if_pos d74];refine ZZ [0,2,0] ?_;refine xT (H7 b a c ts k2 (32-f)::(bl++h)) (h1:=cA P7) ?_;exact⟨H7 b a c ts k2 (32-f)::bl,rfl,x,k2,tx,bl,⟨hq,hk2⟩,rfl,⟨hst,hT,hW⟩,rfl⟩
end
theorem c3o{m:View}(hg:Glob m)(b:Nat)(a:Oa)(c:Nat)(ts:Lt)(htn:∀k,(-2147483648<=(C1 (ts.drop k)).n/\(C1 (ts.drop k)).n<=2147483647)/\(C1 (ts.drop k)).text.length<=140737488355328) :
 ∀f,f<=32->INS m b a c ts f/\EXP m b a c ts f
 |0,_=>⟨c9f b a c ts,exp hg b a c ts (opn hg b a c ts (c9f b a c ts) htn) λk=>(htn k).2⟩
 |f+1,hf=>by
  have ih:=c3o hg b a c ts htn f (by omega);have hI:=d0a hg b a c ts (by omega) ih.2;exact⟨hI,exp hg b a c ts (opn hg b a c ts hI htn) λk=>(htn k).2⟩
abbrev ptV(b:Nat):Value:=.pointer (some ⟨b,0,none⟩)
theorem b8l(b0 b1 b2:Nat)(h:Lr)(m:View):b0R prog 251 [ptV b0,ptV b1,ptV b2] .returning m h h:=by
 refine a8H func251 rfl rfl ntmps251 Lb rfl Lb Lb (b4u rfl) rfl ?_;refine kA1 ?_;refine xG (a9t c1V Et rfl) ?_;refine kQ0 [0,1,2,3,8] ?_;refine wc ?_ ?_<;>intro c8
 cases c8;refine WC.skip (a8F (h2:=h) (.inr rfl) rfl Sb)
abbrev r3(b0 b1 b2:Nat)(e:Ex)(k n:Int)(h:Lr):Lr:=.pt b0 (.cells (exE e).toArray 29 (0,0))::.pt b1 (.cells [Value.int .i64 k].toArray 3 (0,0))::.pt b2 (.cells [Value.int .i64 n].toArray 47 (0,0))::h
theorem c5z(b0 b1 b2:Nat)(h:Lr)(m:View)(x:Ex)(k n e:Int):b0R prog 251 [ptV b0,ptV b1,ptV b2] (.panicking [{ v:=c1O e,recovered:=false }]) m (r3 b0 b1 b2 x k n h) (r3 b0 b1 b2 A0 0 e h):=by
 refine a8H func251 rfl rfl ntmps251 Lb rfl Lb Lb b4z (a9s _) ?_;refine kA1 ?_;refine xG (a9m c1V Et rfl) ?_;refine kQ0 [0,1,2,3,8] ?_;refine wc ?_ ?_<;>intro c8
 refine kA1 ?_;refine xG (a4H b2i Et) ?_;refine kA3 ?_;refine xW λb4=>?_;refine kQ2 [0,1,2,3,4,5] ?_;refine kQ2 [0,1,2,3,4,15] ?_;refine wc ?_ ?_<;>intro c15
 cases c15;refine WC.skip (kp [0,1,2,4] ?_);refine jE ?_;refine WC.take (r:=.pt b1 _) De ?_;refine WC.take (r:=.pt b0 _) De ?_;refine F4 [3,4] (.op 0 (.op 1 (.op 2 (.op 3 (.op 4 .nil))))) [5] _ [_,_] C9 (λ_ _ _ _ _ h=>absurd h.1 (by rintro(q|q)<;>cases q)) [] (by kernel_rfl) ?_;refine yG rfl (PO.build P7 rfl rfl rfl EvP.nil rfl) ?_;refine kA2 ?_;refine SR.store rfl rfl rfl Et Et rfl rfl rfl rfl Up ?_;refine SR.store rfl rfl rfl Et Ek rfl rfl rfl rfl Up ?_;refine nS ?_;refine kA1 ?_;refine WL.nil (a8F (h2:=r3 b0 b1 b2 A0 0 e h) (.inr rfl) rfl Sb);cases c8
theorem _root_.Go.Eng.WC.noPan{P:Program}{c:Code}{Q:Exit->Pw}{n:Cx}{F:Fm}{h:Lr}{m:View}(k:WC P c (noPan Q) n F h m):WC P c Q n F h m:=
 .mk λa w ha hs=>wpIn_mono (k.e a w ha hs) λe _ _ q=>by cases e<;>first|exact q|exact(q:False).elim
theorem a5w{ts:Lt}{x:Ex}{k:Nat}(h:a1H (T9 32) ts=.ok (x,ts.drop k))(hk:k<=ts.length):Q2 ts=if K0 x then .ok (x,k)else .error 3:=by have h2:b0u ts=.ok (x,ts.drop k):=h;unfold Q2;rw[h2];show(if K0 x then Except.ok (x,ts.length-(ts.drop k).length)else .error 3)=_;rw[qx,show ts.length-(ts.length-k)=k by omega]
theorem front_ct{m:View}(hg:Glob m)(a:Oa)(c:Nat)(ts:Lt)(h:Lr)(hk:Tks m h a c ts)(htn:∀k,(-2147483648<=(C1 (ts.drop k)).n/\(C1 (ts.drop k)).n<=2147483647)/\(C1 (ts.drop k)).text.length<=140737488355328) :
 CT prog 175 [.slice a ts.length c] h m (λv _ h'=>(∃(x:Ex)(k:Nat)(t:Ex)(bl:Lr),(Q2 ts=.ok (x,k)/\k<=ts.length)/\v=.tuple #[exV t,.int .i64 k,.int .i64 0]/\(B5 t=x/\TOk m bl t/\Wf t)/\h'=bl++h) \/
  (∃e:Int,Q2 ts=.error e/\v=.tuple #[exV A0,.int .i64 0,.int .i64 e]/\h'=h)):=by
 have hE:=(c3o hg · a c ts htn 32 (by omega));refine CT.bodyD call175 func175 rfl ntmps175 Lb rfl ?_;refine j0 ?_;refine xW λb2=>?_;refine xW λb3=>?_
 refine xW λb4=>?_;refine wn [0,2,3,4] ?_;refine jE ?_;refine b03 rfl λops hG=>?_
 refine WY.po rfl (PO.makeFunc Evs.nil (E3 Et Et Et)) Lb ?_;refine WY.defer rfl Et ?_;refine kp [0,2,3,4] ?_;refine kA2 ?_;refine xX λb9=>?_;refine kQ1 [2,3,4,5] ?_;refine kA1 ?_;refine A1 Ef (E1 Et) ((hE b9).2 _ 0 (hk.mono Sb) (by omega)) Lb (λv hv hx=>?_) λv11 h11 hr11=>?_
 ·obtain⟨e,k2,o2,hres,rfl,rfl⟩:=hx
  intro a1 w1 ha1 hs1;have hs2:St m (r3 b2 b3 b4 A0 0 0 h) w1:=(hs1.sub (qo _ _)).perm ((qL (l₁:=[_,_])).trans ((qF _ _ _).cons _));have hfe:Q2 ts=.error e:=by have h2:b0u ts=.error e:=hres;unfold Q2;rw[h2]
  exact c8T (P:=prog) (fn:=Tryz.f175) (h':=h) rfl call251 (c5z b2 b3 b4 h m A0 0 0 e) rfl (W6 P7 rfl rfl rfl Me rfl) (a0q uu3 rfl rfl Me rfl) (a0q b6H rfl rfl Me rfl) Vl Sb (.inr ⟨e,hfe,rfl,rfl⟩) a1 w1 ha1 hs2
 obtain⟨hp11,rfl,x,k2,tx,bl,⟨hres,hk2⟩,rfl,⟨hst,hT,hW⟩,rfl⟩:=hr11;refine WL.perm (h':=H7 b9 a c ts k2 (32-(32:Nat))::.pt b4 _::.pt b3 _::.pt b2 _::(bl++h)) ((a0o bl [_,_,_] h).cons _) ?_;have hfr:=a5w hres hk2;refine kQ1 [2,3,4,5] ?_;refine kA1 ?_;refine xf (E1 Et) (may_ct hg tx _ (hT.mono ((qg bl h).trans Sb)) hW) ?_;refine kQ1 [2,3,4,5,14] ?_;refine wc ?_ ?_<;>intro c14
 have d14:K0 x=false:=by rw[<-hst,S5];simpa using c14
 rw[d14]at hfr;refine kQ4 [2,3,4] ?_;refine WC.ret (c6P (h':=h) (.inl rfl) rfl call251 (b8l _ _ _ _ _) rfl (W6 P7 rfl rfl rfl Me rfl) (a0q uu3 rfl rfl Me rfl) (a0q b6H rfl rfl Me rfl) Vl Sb ?_);exact .inr ⟨3,hfr,rfl,rfl⟩;have d14:K0 x=true:=by rw[<-hst,S5];simpa using c14
 rw[d14]at hfr;refine WC.skip (kp [2,3,4,5] ?_);refine jE ?_;refine WC.noPan ?_;refine WC.take (r:=.pt b2 _) De ?_;refine F4 [0,5] (.op 1 (.op 2 (.op 3 (.op 4 (.op 0 (.op 5 .nil)))))) [6,7] _ [_] C9 (λ_ _ _ _ _ h=>h) [] (by kernel_rfl) ?_;refine kA4 ?_;refine b2O rfl rfl (λfr=>a0n P7 rfl rfl Et (qE _ Me) rfl) Lb ?_;refine SR.store rfl rfl rfl Et Et rfl rfl rfl rfl Up ?_;refine nS ?_;refine kQ2 [2,3,4] ?_;refine WC.ret (c6P (h':=bl++h) (.inl rfl) rfl call251 (b8l _ _ _ _ _) rfl (W6 P7 rfl rfl rfl Me rfl) (a0q uu3 rfl rfl Me rfl) (a0q b6H rfl rfl Me rfl) Vl Sb ?_);exact .inl ⟨x,k2,tx,bl,⟨hfr,hk2⟩,rfl,⟨hst,hT,hW⟩,rfl⟩
theorem b1P{m:View}(hg:Glob m)(a:Oa)(c:Nat)(ts:Lt)(h:Lr)(hk:Tks m h a c ts)(htn:∀t∈ts,-2147483648<=t.n/\t.n<=2147483647) :
 CT prog 175 [.slice a ts.length c] h m (λv _ h'=>∃(t:Ex)(bl:Lr),v=.tuple #[exV t,.int .i64 (R1 ts:Nat),.int .i64 (a05 ts)]/\(B5 t=a2X ts/\TOk m bl t/\Wf t)/\h'=bl++h):=by
 have hz:∀k,(-2147483648<=(C1 (ts.drop k)).n/\(C1 (ts.drop k)).n<=2147483647)/\(C1 (ts.drop k)).text.length<=140737488355328:=λk=>by
  cases hd:ts.drop k with
  |nil=>exact⟨by decide,by decide⟩
  |cons u r=>
   have hu:u∈ts:=z5 (by rw[hd];exact qm _);rw[a1z];split
   ·exact⟨htn u hu,hk.tx u hu⟩
   ·exact⟨by decide,by decide⟩
 have h1:=front_ct hg a c ts h hk hz;refine⟨h1.enter,λw hs=>Calls.mono (h1.calls w hs) ?_⟩;rintro e w' ⟨v,m',h',rfl,hle,hst,⟨x,k,t,bl,⟨hf,hk2⟩,rfl,hT,rfl⟩|⟨er,hf,rfl,rfl⟩⟩
 ·exact⟨_,m',_,rfl,hle,hst,t,bl,by unfold R1 a05;rw[hf],by unfold a2X;rw[hf];exact hT,rfl⟩
 ·exact⟨_,m',_,rfl,hle,hst,A0,[],by unfold R1 a05;rw[hf];rfl,by unfold a2X;rw[hf];exact⟨rfl,J2 _ _ _ _ _ _ _,Y0 (by omega) (by omega) (by omega) (by omega) (qi _)⟩,rfl⟩
theorem c5a{m:View}{f:FuncId}{e:Ex}{h:Lr}(c:CT prog f [exV e] h m (λv _ h'=>(K0 e=true/\∃a c,v=.tuple #[.slice a (C3 e).length c,.int .i64 0]/\h'=.row (.slice a (C3 e).length c) 116 4 (C3 e).length (fl B1 (C3 e))::h)\/(K0 e=false/\v=.tuple #[.slice none 0 0,.int .i64 2]/\h'=h))) :
 CT prog f [exV e] h m (λv _ h'=>∃a c,v=.tuple #[.slice a (G3 e).length c,.int .i64 (b3r e)]/\h'=.row (.slice a (G3 e).length c) 116 4 (G3 e).length (fl B1 (G3 e))::h):=by
 refine⟨c.enter,λw hs=>Calls.mono (c.calls w hs) ?_⟩;rintro _ w' ⟨v,m',h',rfl,hle,hst,⟨hm,a,c,rfl,rfl⟩|⟨hm,rfl,rfl⟩⟩
 ·exact⟨_,m',_,rfl,hle,hst,a,c,by unfold G3 b3r;rw[hm];rfl,by unfold G3;rw[hm];rfl⟩
 ·exact⟨_,m',_,rfl,hle,hst.addNil 116 4,none,0,by unfold G3 b3r;rw[hm];rfl,by unfold G3;rw[hm];rfl⟩
theorem c3Z{m:View}(hg:Glob m)(e:Ex)(h:Lr)(hT:TOk m h e)(hW:Wf e):CT prog 280 [exV e] h m (λv _ h'=>∃a c,v=.tuple #[.slice a (G3 e).length c,.int .i64 (b3r e)]/\h'=.row (.slice a (G3 e).length c) 116 4 (G3 e).length (fl B1 (G3 e))::h):=c5a (tokens_ct hg e h hT hW)
end
end Go.Proofs.YtgcjpahhljmlmaaGreatDoor
namespace Go.Proofs.YtgcjpahhljmlmaaGreatDoor.Ty9
open Go.Proofs.Tryz
section
open Go.Eng Go.Lx Go.Ty
def W3(h:Lr)(k:Int):Value->View->Lr->Prop:=A5 h (.tuple #[str (wordS k).1,.int .i64 (wordS k).2.1,.bool (wordS k).2.2])
theorem b0q{i:Nat}{p:Pm}(hp:prims[i]?=some p):((fl c1f prims).drop (i*3)).take 3=c1f p:=by
 match i,hp with
 |0,hp=>cases hp;rfl
 |1,hp=>cases hp;rfl
 |2,hp=>cases hp;rfl
theorem a8E(k:Int)(h:Lr)(m:View)(hg:Glob m):CT prog 303 [.int .u8 k] h m (W3 h k):=by
 refine cB [0,2,3,4,6,7,8,9,14] func303 λ_=>?_;refine Z3 ?_;refine xG (I8 (vs:=fl c1f prims) a8m rfl rfl Ev.global rfl (λj v hj=>by rw[qI];exact hg.prim j v hj)) ?_;refine Z1 ?_;refine lI [0,7] (λμ F' h'=>∃i:Nat,(i<=3/\wordS k=wordIn k (prims.drop i))/\3-i=μ/\F'=[(8,.int .i64 i)]/\h=h') (3-0) [(8,.int .i64 0)] h ⟨0,⟨by omega,rfl⟩,rfl,rfl,rfl⟩ ?_;rintro _ _ _ ⟨i,⟨hk,hJ⟩,rfl,rfl,rfl⟩;refine A9 rfl ?_;refine y4 ?_ ?_<;>intro c9
 obtain⟨p,hp⟩:=A8 (l:=prims) (k:=i) (by show i<3;omega);rw[b5i k hp]at hJ;refine Z0 ?_;refine xG (a7w (sz:=3) (q:=i) a8m b4g rfl rfl Et Et rfl (by omega) (b0q hp)) ?_;refine xW λb6=>?_
 refine ZZ [1,4,0] ?_;refine wc ?_ ?_<;>intro c14
 rw[c14]at hJ;refine jE ?_;refine dS [] (.op 0 (.op 1 (.op 2 (.op 3 (.op 4 .nil))))) [5,6] C9 ?_;refine kA4 ?_;refine yG rfl (PO.assign Et) ?_;refine nS ?_;refine Z2 ?_;refine w3 h ?_;exact⟨by rw[hJ];rfl,rfl⟩;rw[c14]at hJ;refine ZZ [0,2] ?_;exact WL.nil (lN (3-(i+1)) [(8,.int .i64 (i+1))] h ⟨i+1,⟨by omega,by simpa using hJ⟩,rfl,rfl,rfl⟩);rw[qb (by show 3<=i;omega)]at hJ;refine ZZ [0,3,0] ?_;refine w3 h ?_;exact⟨by rw[hJ];rfl,rfl⟩
theorem a4d(k:Int)(h:Lr)(m:View)(hg:Glob m):CT prog 253 [.int .u8 k] h m (A5 h (.bool (is k))):=by
 refine cB [0,2,5] func253 λ_=>?_;refine ZZ [1,1] ?_;refine xf (E1 Et) (a8E _ _ _ hg) ?_;refine ZZ [7,2,0] ?_;refine wT h ?_;exact⟨rfl,rfl⟩
theorem prim_ct(k:Int)(h:Lr)(m:View):CT prog 199 [.int .u8 k] h m (A5 h (.bool (prim k))):=by
 refine cB [0,2] func199 λ_=>?_;refine ZZ [1,11,0] ?_;refine wT h ?_;exact⟨rfl,rfl⟩
theorem may_ct(t:Ty)(h:Lr)(m:View)(hg:Glob m)(hs:t.proto.length<=9223372036854775807):CT prog 176 [tyV t] h m (A5 h (.bool (may t))):=by
 refine cB [1,2,3,12,24,31] func176 λ_=>?_;refine xX λb1=>?_
 refine ZZ [1,9,0] ?_;refine wc ?_ ?_<;>intro c3
 have d3:far t=true:=c3;refine Z1 ?_;refine wT h ?_;exact⟨by unfold may;rw[d3];rfl,rfl⟩;have d3:far t=false:=c3;refine kA2 ?_;refine xf (E1 Et) (a4d _ _ _ hg) ?_;refine y1 ?_ ?_<;>intro c12
 refine kA6 ?_;refine zG (λhc=>H0 (Eg hc) Ek) ?_;refine Z2 ?_;refine wT h ?_;exact⟨by unfold may;rw[d3,c12];rfl,rfl⟩;refine Z4 ?_;refine wc ?_ ?_<;>intro c24
 refine kA2 ?_;refine xG (U4 a7s (by kernel_rfl) (by kernel_rfl) Et Et rfl) ?_;refine Z1 ?_;refine wT h ?_;exact⟨by unfold may;rw[d3,c12,c24];rfl,rfl⟩;refine Z4 ?_;refine wc ?_ ?_<;>intro c31
 refine kA2 ?_;refine xf (E1 Et) (a0S _ _ _ hg (by assumption)) ?_;refine Z1 ?_;refine wT h ?_;exact⟨by unfold may;rw[d3,c12,c24,c31];rfl,rfl⟩;refine ZZ [0,2] ?_;refine xf (E1 Et) (a4d _ _ _ hg) ?_;refine kA3 ?_;refine zG (λhc=>H0 (Eg hc) Ek) ?_;refine Z2 ?_;refine wT h ?_;exact⟨by unfold may;rw[d3,c12,c24,c31];rfl,rfl⟩
theorem mayR_ct(t:Ty)(h:Lr)(m:View)(hs:t.proto.length<=9223372036854775807):CT prog 125 [tyV t] h m (A5 h (.bool (mayR t))):=by
 refine cB [1,2,10,13,24] func125 λ_=>?_;refine xX λb1=>?_
 refine ZZ [1,8,0] ?_;refine wc ?_ ?_<;>intro c10
 have d3:far t=true:=c10;refine Z1 ?_;refine wT h ?_;exact⟨by unfold mayR;rw[d3];rfl,rfl⟩;have d3:far t=false:=c10;refine ZZ [0,2] ?_;refine xf (E1 Et) (prim_ct _ _ _) ?_;refine y0 ?_ ?_<;>intro c13
 refine kA6 ?_;refine zG (λhc=>H0 (Eg hc) Ek) ?_;refine Z2 ?_;refine wT h ?_;exact⟨by unfold mayR;rw[d3,c13];rfl,rfl⟩;refine ZZ [0,3,0] ?_;refine wc ?_ ?_<;>intro c24
 refine kA2 ?_;refine xf (E1 Et) (prim_ct _ _ _) ?_;refine kA3 ?_;refine zG (λhc=>H0 (Eg hc) Ek) ?_;refine kA8 ?_;refine A3 (a0m rfl rfl) (λhc=>⟨Ef,(E1 (Eg hc)),a1f _ _ _ (by assumption)⟩) Lb ?_;refine zG (λhc=>N3 hc rfl rfl) ?_;refine Z2 ?_;refine wT h ?_;exact⟨by unfold mayR;rw[d3,c13,c24];rfl,rfl⟩;refine ZZ [0,2] ?_;refine xG (U4 a7s (by kernel_rfl) (by kernel_rfl) Et Et rfl) ?_;refine Z1 ?_;refine wT h ?_;exact⟨by unfold mayR;rw[d3,c13,c24];rfl,rfl⟩
theorem b8N(k:Int)(h:Lr)(m:View)(hg:Glob m):CT prog 297 [.int .u8 k] h m (A5 h (.bool (!is k))):=by
 refine cB [0,2] func297 λ_=>?_;refine ZZ [1,1] ?_;refine xf (E1 Et) (a4d _ _ _ hg) ?_;refine Z2 ?_;refine wT h ?_;exact⟨rfl,rfl⟩
theorem c5q(q:FuncId)(pr:Int->Bool)(a:Oa)(k c:Nat)(l:List Int)(h:Lr)(m:View)(hq:∀x,CT prog q [.int .u8 x] h m (A5 h (.bool (pr x))))(hs:Rd m h a k c 1 (fl H3 l)) :
 CT prog 316 [.slice a k c,.func (.func q) #[] #[]] h m (A5 h (.int .i64 (idxF pr l 0))):=by
 have hl:=hs.lenF E5 (by decide);have hmx:=hs.mx;have hle:=hs.le;refine cB [0,1,4,5,7,8,9,16] func316 λ_=>?_;refine ZZ [1,3,0] ?_;refine lI [0,1,7] (λμ F' h'=>∃j:Nat,(j<=k/\idxF pr l 0=idxF pr (l.drop j) j)/\k-j=μ/\F'=[(8,.int .i64 j)]/\h=h') (k-0) [(8,.int .i64 0)] h ⟨0,⟨by omega,rfl⟩,rfl,rfl,rfl⟩ ?_;rintro _ _ _ ⟨j,⟨hk,hJ⟩,rfl,rfl,rfl⟩;refine A9 rfl ?_;refine y4 ?_ ?_<;>intro c9
 obtain⟨x,hx⟩:=A8 (l:=l) (k:=j) (by omega);rw[idxF_drop pr hx]at hJ;refine ZZ [0,2,5] ?_;refine P6 (Ev.tmp rfl) (E1 (Ev.tmp rfl)) (hq x) Lb ?_;refine y0 ?_ ?_<;>intro c16
 rw[c16]at hJ;refine Z2 ?_;refine wT h ?_;exact⟨by rw[hJ];rfl,rfl⟩;rw[c16]at hJ;refine ZZ [0,2] ?_;exact WL.nil (lN (k-(j+1)) [(8,.int .i64 (j+1))] h ⟨j+1,⟨by omega,by simpa using hJ⟩,rfl,rfl,rfl⟩);rw[qb (by omega)]at hJ;refine ZZ [0,1,0] ?_;refine wT h ?_;exact⟨by rw[hJ];rfl,rfl⟩
theorem c4y(q:FuncId)(pr:Int->Bool)(a:Oa)(k c:Nat)(l:List Int)(h:Lr)(m:View)(hq:∀x,CT prog q [.int .u8 x] h m (A5 h (.bool (pr x))))(hs:Rd m h a k c 1 (fl H3 l)) :
 CT prog 296 [.slice a k c,.func (.func q) #[] #[]] h m (A5 h (.bool (l.any pr))):=by
 refine cB [0,1,4] func296 λ_=>?_;refine ZZ [1,2] ?_;refine xf (E2 Et Et) (c5q q pr _ _ _ l _ _ hq hs) ?_;refine Z2 ?_;refine wT h ?_;exact⟨congrArg Value.bool (idxF_any pr l 0 (by decide)),rfl⟩
theorem b5A(least:Int)(a:Oa)(k c:Nat)(l:List Int)(h:Lr)(m:View)(hg:Glob m)(hs:Rd m h a k c 1 (fl H3 l)) :
 CT prog 246 [.slice a k c,.int .i64 least] h m (A5 h (.bool (itemsB l least))):=by
 have hl:=hs.lenF E5 (by decide);subst hl;refine cB [0,1,4] func246 λ_=>?_;refine ZZ [1,11] ?_;refine A3 (GU.t rfl rfl) (λhc=>⟨Ef,(E2 (Eg hc) Ef),c4y 297 (λk=>!is k) _ _ _ l _ _ (λx=>b8N x _ _ hg) hs⟩) Lb ?_;refine Z3 ?_;refine wT h ?_;exact⟨rfl,rfl⟩
theorem b1W(least:Int)(a:Oa)(k c:Nat)(l:List Int)(h:Lr)(m:View)(hs:Rd m h a k c 1 (fl H3 l)) :
 CT prog 195 [.slice a k c,.int .i64 least] h m (A5 h (.bool (itemsB l least))):=by
 have hl:=hs.lenF E5 (by decide);subst hl;have hmx:=hs.mx;have hle:=hs.le;rw[c1o];refine cB [0,1,4,5,9,17] func195 λ_=>?_;refine ZZ [1,1,0] ?_;refine lI [0,1] (λμ F' h'=>∃j:Nat,(j<=l.length/\l.all prim=(l.drop j).all prim)/\l.length-j=μ/\F'=[(5,.int .i64 j)]/\h=h') (l.length-0) [(5,.int .i64 0)] h ⟨0,⟨by omega,rfl⟩,rfl,rfl,rfl⟩ ?_;rintro _ _ _ ⟨j,⟨hk,hJ⟩,rfl,rfl,rfl⟩;refine A9 rfl ?_;refine Z4 ?_;refine wD ?_ ?_<;>intro c9
 obtain⟨x,hx⟩:=A8 (l:=l) (k:=j) (by omega);rw[qq (by omega),(qd.1 hx).2,List.all_cons]at hJ;refine ZZ [0,4] ?_;refine xf (E1 Et) (prim_ct _ _ _) ?_;refine y1 ?_ ?_<;>intro c17
 have d:prim x=false:=by simpa using c17
 rw[d]at hJ;refine Z1 ?_;refine wT h ?_;exact⟨by unfold b2Q;rw[hJ];rfl,rfl⟩;have d:prim x=true:=by simpa using c17
 rw[d]at hJ;refine ZZ [0,3] ?_;exact WL.nil (lN (l.length-(j+1)) [(5,.int .i64 (j+1))] h ⟨j+1,⟨by omega,by simpa using hJ⟩,rfl,rfl,rfl⟩);rw[qb (by omega)]at hJ;refine ZZ [0,10,0] ?_;refine wT h ?_;exact⟨by unfold b2Q;rw[hJ];rfl,rfl⟩
theorem b0x(s1 s2:Oa)(n1 c1 n2 c2:Nat)(xs ys:List _)(h:Lr)(m:View)(h1:Rd m h s1 n1 c1 1 (fl H3 xs))(h2:Rd m h s2 n2 c2 1 (fl H3 ys)) :
 CT prog 73 [.slice s1 n1 c1,.slice s2 n2 c2] h m (A5 h (.bool (eqL eqI xs ys))):=by
 have l1:=h1.lenF E5 (by decide);have l2:=h2.lenF E5 (by decide);have m1:=h1.mx;have m2:=h2.mx;have k1:=h1.le;have k2:=h2.le;refine cB [0,1,4,5,10,14,25] func73 λ_=>?_;refine ZZ [1,5,0] ?_;refine wN ?_ ?_<;>intro c10
 refine Z1 ?_;refine wT h ?_;exact⟨by rw[U5 _ _ _ (by omega)],rfl⟩;refine ZZ [0,1,0] ?_;refine lI [0,1] (λμ F' h'=>∃k:Nat,(k<=n1/\eqL eqI xs ys=eqL eqI (xs.drop k) (ys.drop k))/\n1-k=μ/\F'=[(5,.int .i64 k)]/\h=h') (n1-0) [(5,.int .i64 0)] h ⟨0,⟨by omega,by simp⟩,rfl,rfl,rfl⟩ ?_;rintro _ _ _ ⟨k,⟨hk,hJ⟩,rfl,rfl,rfl⟩;refine A9 rfl ?_;refine Z4 ?_;refine wD ?_ ?_<;>intro c14
 obtain⟨x,hx⟩:=A8 (l:=xs) (k:=k) (by omega);obtain⟨y,hy⟩:=A8 (l:=ys) (k:=k) (by omega);rw[Q9 _ hx hy]at hJ;refine Z0 ?_;refine dS [] (.op 0 (.op 1 (.op 2 (.op 3 (.op 4 (.op 5 (.op 6 (.op 7 .nil)))))))) [8] C9 ?_;refine kA8 ?_;refine nS ?_;refine y1 ?_ ?_<;>intro c25
 refine Z1 ?_;refine wT h ?_;exact⟨by rw[hJ,a2S c25];rfl,rfl⟩;rw[a3a c25,qG]at hJ;refine ZZ [0,3] ?_;exact WL.nil (lN (n1-(k+1)) [(5,.int .i64 (k+1))] h ⟨k+1,⟨by omega,hJ⟩,rfl,rfl,rfl⟩);refine ZZ [0,1,0] ?_;refine wT h ?_;exact⟨by rw[hJ,qb (by omega),qb (by omega)];rfl,rfl⟩
theorem b2S(w v:Vr)(b:Nat)(h:Lr)(m:View)(hb:Res.pt b (.cells (encV v).toArray 145 (0,0))∈h) :
 CT prog 248 [.agg (encV w).toArray,.pointer (some ⟨b,0,none⟩)] h m (A5 h (.bool (w.tag==v.tag))):=by
 refine cB [1,2,3] func248 λ_=>?_;refine xX λb2=>?_
 refine ZZ [1,3] ?_;refine xG (C8 uu9 rfl Et (qD _ hb) rfl) ?_;refine xG (H0 Et Et) ?_;refine Z1 ?_;refine wT h ?_;exact⟨rfl,rfl⟩
theorem c4x(q:FuncId)(pr:Vr->Bool)(cap:Lv)(a:Oa)(k c:Nat)(l:List Vr)(h:Lr)(m:View)(hq:∀x,x∈l->CT prog q ([.agg (encV x).toArray]++cap) h m (A5 h (.bool (pr x))))(hs:Rd m h a k c 2 (fl encV l)) :
 CT prog 298 [.slice a k c,.func (.func q) #[] cap.toArray] h m (A5 h (.int .i64 (idxF pr l 0))):=by
 have hl:=hs.lenF D8 (by decide);have hmx:=hs.mx;have hle:=hs.le;refine cB [0,1,4,5,7,8,9,16] func298 λ_=>?_;refine ZZ [1,3,0] ?_;refine lI [0,1,7] (λμ F' h'=>∃j:Nat,(j<=k/\idxF pr l 0=idxF pr (l.drop j) j)/\k-j=μ/\F'=[(8,.int .i64 j)]/\h=h') (k-0) [(8,.int .i64 0)] h ⟨0,⟨by omega,rfl⟩,rfl,rfl,rfl⟩ ?_;rintro _ _ _ ⟨j,⟨hk,hJ⟩,rfl,rfl,rfl⟩;refine A9 rfl ?_;refine y4 ?_ ?_<;>intro c9
 obtain⟨x,hx⟩:=A8 (l:=l) (k:=j) (by omega);rw[idxF_drop pr hx]at hJ;refine ZZ [0,2,5] ?_;refine P6 (Ev.tmp rfl) (E1 (Ev.tmp rfl)) (hq x (qe hx)) Lb ?_;refine y0 ?_ ?_<;>intro c16
 rw[c16]at hJ;refine Z2 ?_;refine wT h ?_;exact⟨by rw[hJ];rfl,rfl⟩;rw[c16]at hJ;refine ZZ [0,2] ?_;exact WL.nil (lN (k-(j+1)) [(8,.int .i64 (j+1))] h ⟨j+1,⟨by omega,by simpa using hJ⟩,rfl,rfl,rfl⟩);rw[qb (by omega)]at hJ;refine ZZ [0,1,0] ?_;refine wT h ?_;exact⟨by rw[hJ];rfl,rfl⟩
theorem c4b(q:FuncId)(pr:Vr->Bool)(cap:Lv)(a:Oa)(k c:Nat)(l:List Vr)(h:Lr)(m:View)(hq:∀x,x∈l->CT prog q ([.agg (encV x).toArray]++cap) h m (A5 h (.bool (pr x))))(hs:Rd m h a k c 2 (fl encV l)) :
 CT prog 247 [.slice a k c,.func (.func q) #[] cap.toArray] h m (A5 h (.bool (l.any pr))):=by
 refine cB [0,1,4] func247 λ_=>?_;refine ZZ [1,2] ?_;refine xf (E2 Et Et) (c4x q pr cap _ _ _ l _ _ hq hs) ?_;refine Z2 ?_;refine wT h ?_;exact⟨congrArg Value.bool (idxF_any pr l 0 (by decide)),rfl⟩
theorem mayProto_ct(cs:Bool)(a:Oa)(k c:Nat)(l:List Vr)(h:Lr)(m:View)(hg:Glob m)(hp:PrOk m h a k c l) :
 CT prog 171 [prV cs a k c] h m (A5 h (.bool (mayPr cs l))):=by
 obtain⟨hs,hv,ht⟩:=hp;have hl:=hs.lenF D8 (by decide);subst hl;have hmx:=hs.mx;have hle:=hs.le;refine cB [1,2,3,4,7,37,39,40,41,42,63] func171 λ_=>?_;refine xX λb1=>?_
 refine ZZ [1,3,0] ?_;refine wc ?_ ?_<;>intro c7
 have hd:=b2L (l:=l);refine kA7 ?_;refine C2 (GU.t rfl rfl) (λhc=>D7 a0j.und a0j.size a0j.posz (Eg hc) Ek Rr rfl (q:=0) (by simp at hc;omega)) Lb ?_;refine zG (λhc=>D0 a8f rfl (qf rfl) D8 (qu _) Rr (hd hc) (Eg hc)) ?_;refine zG (λhc=>D2 uu9 rfl D8 Rr (Eg hc) (hd hc) rfl) ?_;refine zG (λhc=>H0 (Eg hc) Ek) ?_;refine kA4 ?_;refine C2 (GU.t rfl rfl) (λhc=>D7 a0j.und a0j.size a0j.posz (Eg hc) Ek Rr rfl (q:=0) (by simp at hc;omega)) Lb ?_;refine zG (λhc=>D0 a8f rfl (qf rfl) D8 (qu _) Rr (hd (b1p hc)) (Eg hc)) ?_;refine zG (λhc=>D2 b1F rfl D8 Rr (Eg hc) (hd (b1p hc)) rfl) ?_;refine A3 (GU.t rfl rfl) (λhc=>⟨Ef,(E2 (Eg hc) Ek),b5A 1 _ _ _ (hdV l).items _ _ hg ((hv _ (qe (hd (b1p hc)))).rd.mono Vl Sb)⟩) Lb ?_;refine Z2 ?_;refine wT h ?_;exact⟨by unfold mayPr;rw[c7];rfl,rfl⟩;refine ZZ [0,10,0] ?_
 refine wc ?_ ?_<;>intro c37
 refine Z1 ?_;refine wT h ?_;exact⟨by unfold mayPr;rw[c7,c37];rfl,rfl⟩;refine ZZ [0,4,0] ?_;refine lI [1,39,40] (λμ F' h'=>∃j:Nat,(j<=l.length/\mayIn [] l=mayIn (l.take j) (l.drop j))/\l.length-j=μ/\F'=[(41,.int .i64 j)]/\.pt b1 (.cells (prL cs a l.length c).toArray 41 (0,0))::h=h') (l.length-0) [(41,.int .i64 0)] (.pt b1 (.cells (prL cs a l.length c).toArray 41 (0,0))::h) ⟨0,⟨by omega,rfl⟩,rfl,rfl,rfl⟩ ?_;rintro _ _ _ ⟨j,⟨hk,hJ⟩,rfl,rfl,rfl⟩;refine A9 rfl ?_;refine y4 ?_ ?_<;>intro c42
 obtain⟨v,hx⟩:=A8 (l:=l) (k:=j) (by omega);rw[a9R hx]at hJ;have hvt:=ht v (qe hx);have hvr:=(hv v (qe hx)).rd;refine ZZ [0,3] ?_;refine xW λb4=>?_
 refine ZZ [2,2] ?_;refine xf (E1 Et) (a0S _ _ _ hg (by assumption)) ?_;refine kA4 ?_;refine A3 (GU.f rfl rfl) (λhc=>⟨Ef,(E2 (Eg hc) Ek),b5A 0 _ _ _ v.items _ _ hg Rr⟩) Lb ?_;refine kA6 ?_;refine C2 (GU.f rfl rfl) (λhc=>a7P a0j.und a0j.size (Eg hc) (Eg hc) rfl (by omega)) Lb ?_;refine zG (λ_=>PO.makeFunc Evs.nil (E1 Et)) ?_;refine A3 (GU.f rfl rfl) (λhc=>⟨Ef,(E2 (Eg hc) (Eg hc)),c4b 248 (λw=>w.tag==v.tag) [.pointer (some ⟨b4,0,none⟩)] _ _ _ (l.take j) _ _ (λx _=>b2S x v b4 _ _ Me) (Rd.takeF D8 (hs.mono Vl Sb) (by omega))⟩) Lb ?_;refine y1 ?_ ?_<;>intro c63
 have d63:badV (l.take j) v=true:=c63;rw[d63]at hJ;refine Z1 ?_;refine wT h ?_;exact⟨by unfold mayPr;rw[c7,c37,hJ];rfl,rfl⟩;have d63:badV (l.take j) v=false:=c63;rw[d63]at hJ;refine ZZ [0,2] ?_;exact WL.nil (lN (l.length-(j+1)) [(41,.int .i64 (j+1))] (.pt b1 (.cells (prL cs a l.length c).toArray 41 (0,0))::h) ⟨j+1,⟨by omega,by simpa using hJ⟩,rfl,rfl,rfl⟩);rw[qb (by omega)]at hJ;refine ZZ [0,1,0] ?_;refine wT h ?_;exact⟨by unfold mayPr;rw[c7,c37,hJ];rfl,rfl⟩
theorem mayProtoR_ct(cs:Bool)(a:Oa)(k c:Nat)(l:List Vr)(h:Lr)(m:View)(hp:PrOk m h a k c l) :
 CT prog 119 [prV cs a k c] h m (A5 h (.bool (mayPr cs l))):=by
 obtain⟨hs,hv,ht⟩:=hp;have hl:=hs.lenF D8 (by decide);subst hl;have hmx:=hs.mx;have hle:=hs.le;refine cB [1,2,3,4,7,37,42,62,65,80] func119 λ_=>?_;refine xX λb1=>?_
 refine ZZ [1,3,0] ?_;refine wc ?_ ?_<;>intro c7
 have hd:=b2L (l:=l);refine kA7 ?_;refine C2 (GU.t rfl rfl) (λhc=>D7 a0j.und a0j.size a0j.posz (Eg hc) Ek Rr rfl (q:=0) (by simp at hc;omega)) Lb ?_;refine zG (λhc=>D0 a8f rfl (qf rfl) D8 (qu _) Rr (hd hc) (Eg hc)) ?_;refine zG (λhc=>D2 uu9 rfl D8 Rr (Eg hc) (hd hc) rfl) ?_;refine zG (λhc=>H0 (Eg hc) Ek) ?_;refine kA4 ?_;refine C2 (GU.t rfl rfl) (λhc=>D7 a0j.und a0j.size a0j.posz (Eg hc) Ek Rr rfl (q:=0) (by simp at hc;omega)) Lb ?_;refine zG (λhc=>D0 a8f rfl (qf rfl) D8 (qu _) Rr (hd (b1p hc)) (Eg hc)) ?_;refine zG (λhc=>D2 b1F rfl D8 Rr (Eg hc) (hd (b1p hc)) rfl) ?_;refine A3 (GU.t rfl rfl) (λhc=>⟨Ef,(E2 (Eg hc) Ek),b1W 1 _ _ _ (hdV l).items _ _ ((hv _ (qe (hd (b1p hc)))).rd.mono Vl Sb)⟩) Lb ?_;refine Z2 ?_;refine wT h ?_;exact⟨by unfold mayPr;rw[c7];rfl,rfl⟩;refine ZZ [0,10,0] ?_
 refine wc ?_ ?_<;>intro c37
 refine Z1 ?_;refine wT h ?_;exact⟨by unfold mayPr;rw[c7,c37];rfl,rfl⟩;refine ZZ [0,1,0] ?_;refine lI [1] (λμ F' h'=>∃j:Nat,(j<=l.length/\mayIn [] l=mayIn (l.take j) (l.drop j))/\l.length-j=μ/\F'=[(3,.int .i64 j)]/\.pt b1 (.cells (prL cs a l.length c).toArray 41 (0,0))::h=h') (l.length-0) [(3,.int .i64 0)] (.pt b1 (.cells (prL cs a l.length c).toArray 41 (0,0))::h) ⟨0,⟨by omega,rfl⟩,rfl,rfl,rfl⟩ ?_;rintro _ _ _ ⟨j,⟨hk,hJ⟩,rfl,rfl,rfl⟩;refine A9 rfl ?_;refine Z5 ?_;refine wD ?_ ?_<;>intro c42
 obtain⟨v,hx⟩:=A8 (l:=l) (k:=j) (by omega);rw[a9R hx]at hJ;have hvt:=ht v (qe hx);have hvr:=(hv v (qe hx)).rd;refine ZZ [0,6] ?_;refine xf (E1 Et) (a1f _ _ _ (by assumption)) ?_;refine kA5 ?_;refine C2 (GU.f rfl rfl) (λhc=>D7 a0j.und a0j.size a0j.posz (Eg hc) (Eg hc) Rr rfl (by omega)) Lb ?_;refine zG (λhc=>D0 a8f rfl (qf rfl) D8 (qu _) Rr (by assumption) (Eg hc)) ?_;refine zG (λhc=>D2 b1F rfl D8 Rr (Eg hc) (by assumption) rfl) ?_;refine A3 (GU.f rfl rfl) (λhc=>⟨Ef,(E2 (Eg hc) Ek),b1W 0 _ _ _ v.items _ _ Rr⟩) Lb ?_;refine y2 ?_ ?_<;>intro c62
 rw[<-name_eq]at c62;have d62:badV (l.take j) v=true:=by unfold badV;rw[c62];rfl
 rw[d62]at hJ;refine Z1 ?_;refine wT h ?_;exact⟨by unfold mayPr;rw[c7,c37,hJ];rfl,rfl⟩;rw[<-name_eq]at c62;have d62:badV (l.take j) v=tagIn v.tag (l.take j):=by unfold badV;rw[c62];rfl
 rw[d62]at hJ;refine ZZ [0,1,0] ?_;refine lI [1,3] (λμ F' h'=>∃q:Nat,(q<=j/\tagIn v.tag (l.take j)=tagIn v.tag ((l.take j).drop q))/\j-q=μ/\F'=[(4,.int .i64 q)]/\.pt b1 (.cells (prL cs a l.length c).toArray 41 (0,0))::h=h') (j-0) [(4,.int .i64 0)] (.pt b1 (.cells (prL cs a l.length c).toArray 41 (0,0))::h) ⟨0,⟨by omega,rfl⟩,rfl,rfl,rfl⟩ ?_;rintro _ _ _ ⟨q,⟨hq,hT⟩,rfl,rfl,rfl⟩;refine A9 rfl ?_;refine Z3 ?_;refine wD ?_ ?_<;>intro c65
 obtain⟨w,hw⟩:=A8 (l:=l) (k:=q) (by omega);have hw':(l.take j)[q]?=some w:=by rw[List.getElem?_take_of_lt (by omega)];exact hw
 rw[b6W v.tag hw']at hT;refine Z0 ?_;refine dS [] (.op 0 (.op 1 (.op 2 (.op 3 (.op 4 (.op 5 (.op 6 (.op 7 (.op 8 (.op 9 (.op 10 (.op 11 .nil)))))))))))) [12] C9 ?_;refine b0g ?_;refine nS ?_;refine xG (H0 Et Et) ?_;refine y0 ?_ ?_<;>intro c80
 rw[c80,zl]at hT;rw[hT]at hJ;refine Z1 ?_;refine wT h ?_;exact⟨by unfold mayPr;rw[c7,c37,hJ];rfl,rfl⟩;rw[c80,zC]at hT;refine ZZ [0,3] ?_;exact WL.nil (lN (j-(q+1)) [(4,.int .i64 (q+1))] (.pt b1 (.cells (prL cs a l.length c).toArray 41 (0,0))::h) ⟨q+1,⟨by omega,hT⟩,rfl,rfl,rfl⟩);rw[qb (by rw[qV];omega)]at hT;rw[hT]at hJ;refine ZZ [0,3] ?_;exact WL.nil (lN (l.length-(j+1)) [(3,.int .i64 (j+1))] (.pt b1 (.cells (prL cs a l.length c).toArray 41 (0,0))::h) ⟨j+1,⟨by omega,hJ⟩,rfl,rfl,rfl⟩);rw[qb (by omega)]at hJ;refine ZZ [0,1,0] ?_;refine wT h ?_;exact⟨by unfold mayPr;rw[c7,c37,hJ];rfl,rfl⟩
def TkR(h:Lr)(b:Nat)(L:Lt):Value->View->Lr->Prop:=λv _ h'=>∃a c,v=.tuple #[]/\h'=.pt b (.cells [Value.slice a L.length c].toArray 87 (0,0))::.row (.slice a L.length c) 116 4 L.length (fl B1 L)::h
theorem a5p(kd:Int)(s:B)(k:Int)(b:Nat)(a:Oa)(c:Nat)(L L':Lt)(h:Lr)(m:View)(hL:L.length<=100)(e:L++[⟨kd,0,s,IntKind.i32.wrap k⟩]=L') :
 CT prog 311 [.int .u8 kd,str s,.int .i64 k,.pointer (some ⟨b,0,none⟩)] (.pt b (.cells [Value.slice a L.length c].toArray 87 (0,0))::.row (.slice a L.length c) 116 4 L.length (fl B1 L)::h) m
  (TkR h b L'):=by
 subst e;refine cB [] func311 λ_=>?_;refine kR a λp q r=>?_
 refine kA4 ?_;refine xG (PO.conv uu3 a0R Et) ?_;refine kA1 ?_;refine xY B3 Eb λb13=>?_;refine xD B3 (Ev.tmp rfl) (Ev.tmp rfl) rfl (D9 (enc:=B1) _ (⟨kd,0,s,IntKind.i32.wrap k⟩)) λa14 c14=>?_
 refine kA1 ?_;refine WL.nil (w0 (.pt b (.cells [Value.slice a14 (L.length+1) c14].toArray 87 (0,0))::.row (.slice a14 (L.length+1) c14) 116 4 (L.length+1) (fl B1 (L++[⟨kd,0,s,IntKind.i32.wrap k⟩]))::h) ?_);exact⟨a14,c14,rfl,by rw[qh];rfl⟩
def c9X(h:Lr)(p:Lt×Int):Value->View->Lr->Prop:=λv _ h'=>∃a c,v=.tuple #[.slice a p.1.length c,.int .i64 p.2]/\h'=.row (.slice a p.1.length c) 116 4 p.1.length (fl B1 p.1)::h
theorem tokens_ct(t:Ty)(h:Lr)(m:View)(hg:Glob m)(hs:t.proto.length<=9223372036854775807):CT prog 279 [tyV t] h m (c9X h (tokens t)):=by
 refine cB [1,2,3,4,5,6,7,9,12,43,48] func279 λ_=>?_;refine xX λb1=>?_
 refine ZZ [2,1] ?_;refine xf (E1 Et) (may_ct t _ _ hg hs) ?_;refine y1 ?_ ?_<;>intro c12
 have d12:may t=false:=by simpa using c12
 refine kA1 ?_;refine WL.addNil 116 4 ?_;refine Z1 ?_;refine w2 (.row (.slice none 0 0) 116 4 0 []::h) ?_;exact⟨none,0,by rw[a3G d12];rfl,by rw[a3G d12];rfl⟩;have d12:may t=true:=by simpa using c12
 refine Z0 ?_;refine xW λb4=>?_;refine WL.addNil 116 4 ?_;refine WL.take (r:=.pt b4 (.cells [Value.slice none 0 0].toArray 87 (0,0))) De ?_;refine Z0 ?_;refine xG (PO.makeFunc Evs.nil (E1 Et)) ?_;refine Z1 ?_;generalize hD:dimT t=D;have hDl:D.length<=3:=hD▸dimT_le t
 refine kP3 [1,4,5,16] ?_;refine D6 KKh [1,4,5] rfl (λF' h'=>∃a:Oa,∃c:Nat,(True)/\F'=[]/\.pt b4 (.cells [Value.slice a D.length c].toArray 87 (0,0))::.row (.slice a D.length c) 116 4 D.length (fl B1 D)::.pt b1 (.cells (E9 t).toArray 37 (0,0))::h=h') ?_ ?_;refine jE ?_;refine wc ?_ ?_<;>intro c16
 refine kA1 ?_;refine F9 (Ev.tmp rfl) (E3 Ek Ek Ek) (a5p 5 lb 0 b4 none 0 [] [D3 lb] _ _ (by decide) rfl) Lb ?_;rintro _ _ ⟨a18,p18,rfl,rfl⟩;refine ZZ [0,3] ?_;refine F9 (Ev.tmp rfl) (E3 Ek Ek (Ev.tmp rfl)) (a5p 3 [] t.dim b4 a18 p18 [D3 lb] [D3 lb,⟨3,0,[],t.dim⟩] _ _ (by decide) (by rw[b5f d12];rfl)) Lb ?_;rintro _ _ ⟨a22,p22,rfl,rfl⟩;refine ZZ [0,1] ?_;refine F9 (Ev.tmp rfl) (E3 Ek Ek Ek) (a5p 5 rb 0 b4 a22 p22 [D3 lb,⟨3,0,[],t.dim⟩] D _ _ (by simp) (by rw[<-hD];unfold dimT;rw[c16];rfl)) Lb ?_;rintro _ _ ⟨a24,p24,rfl,rfl⟩;exact WL.nil (mN [] (.pt b4 (.cells [Value.slice a24 D.length p24].toArray 87 (0,0))::.row (.slice a24 D.length p24) 116 4 D.length (fl B1 D)::.pt b1 (.cells (E9 t).toArray 37 (0,0))::h) ⟨a24,p24,by trivial,rfl,rfl⟩);have e16:D=[]:=by rw[<-hD];unfold dimT;rw[c16];rfl
 refine X9 (h':=.pt b4 (.cells [Value.slice none D.length 0].toArray 87 (0,0))::.row (.slice none D.length 0) 116 4 D.length (fl B1 D)::.pt b1 (.cells (E9 t).toArray 37 (0,0))::h) (by rw[e16];rfl) ?_;exact WC.skip (mN [] (.pt b4 (.cells [Value.slice none D.length 0].toArray 87 (0,0))::.row (.slice none D.length 0) 116 4 D.length (fl B1 D)::.pt b1 (.cells (E9 t).toArray 37 (0,0))::h) ⟨none,0,by trivial,rfl,rfl⟩);rintro _ _ ⟨a,c,hJ,rfl,rfl⟩;refine A9 rfl ?_;refine j0 ?_;generalize hE:D++chanT t=E;have hEl:E.length<=5:=by rw[<-hE,qh];have:=chanT_le t;omega
 refine Z3 ?_;refine kP2 [1,4,5,6,28] ?_;refine D6 KKh [1,4,5] rfl (λF' h'=>∃a':Oa,∃c':Nat,(True)/\F'=[(6,.int .u8 (a5h t))]/\.pt b4 (.cells [Value.slice a' E.length c'].toArray 87 (0,0))::.row (.slice a' E.length c') 116 4 E.length (fl B1 E)::.pt b1 (.cells (E9 t).toArray 37 (0,0))::h=h') ?_ ?_;refine jE ?_;refine wc ?_ ?_<;>intro c28
 refine kA1 ?_;refine F9 (Ev.tmp rfl) (E3 Ek Ek Ek) (a5p 2 a1e 0 b4 a c D (D++[I2 a1e]) _ _ (by omega) rfl) Lb ?_;rintro _ _ ⟨a30,p30,rfl,rfl⟩;refine ZZ [0,1] ?_;refine F9 (Ev.tmp rfl) (E3 Ek Ek Ek) (a5p 2 cOF 0 b4 a30 p30 (D++[I2 a1e]) E _ _ (by simp;omega) (by rw[<-hE];unfold chanT;rw[c28];simp;rfl)) Lb ?_;rintro _ _ ⟨a32,p32,rfl,rfl⟩;refine ZZ [0,3] ?_;refine WL.nil (b0b [(6,.int .u8 (a5h t))] (h'':=.pt b4 (.cells [Value.slice a32 E.length p32].toArray 87 (0,0))::.row (.slice a32 E.length p32) 116 4 E.length (fl B1 E)::.pt b1 (.cells (E9 t).toArray 37 (0,0))::h) ?_ Su Sb ⟨a32,p32,by trivial,rfl,rfl⟩);refine Sub.consE rfl (congrArg (Value.int .u8) (by unfold a5h;rw[c28];rfl)) ?_;exact Su;have e28:E=D:=by rw[<-hE];unfold chanT;rw[c28];simp
 refine X9 (h':=.pt b4 (.cells [Value.slice a E.length c].toArray 87 (0,0))::.row (.slice a E.length c) 116 4 E.length (fl B1 E)::.pt b1 (.cells (E9 t).toArray 37 (0,0))::h) (by rw[e28]) ?_;refine WC.skip (b0b [(6,.int .u8 (a5h t))] (h'':=.pt b4 (.cells [Value.slice a E.length c].toArray 87 (0,0))::.row (.slice a E.length c) 116 4 E.length (fl B1 E)::.pt b1 (.cells (E9 t).toArray 37 (0,0))::h) ?_ Su Sb ⟨a,c,by trivial,rfl,rfl⟩);refine Sub.consE rfl (congrArg (Value.int .u8) (by unfold a5h;rw[c28];rfl)) ?_;exact Su;rintro _ _ ⟨a',c',hJ,rfl,rfl⟩;refine A9 rfl ?_;refine kA1 ?_;refine xf (E1 Et) (a8E _ _ _ hg) ?_;refine ZZ [7,2,0] ?_;refine wc ?_ ?_<;>intro c43
 refine kA2 ?_;refine F9 (Ev.tmp rfl) (E3 Ek (Ev.tmp rfl) Ek) (a5p 2 (wordS (a5h t)).1 0 b4 a' c' E (toks t) _ _ (by omega) (by unfold toks;rw[hD,hE];unfold lastT;rw[c43];rfl)) Lb ?_;rintro _ _ ⟨a47,p47,rfl,rfl⟩;refine ZZ [0,3,0] ?_;refine w2 (.row (.slice a47 (toks t).length p47) 116 4 (toks t).length (fl B1 (toks t))::h) ?_;exact⟨a47,p47,by rw[K1 d12],by rw[K1 d12]⟩;refine kA2 ?_;refine xG (P2 Et Ek) ?_;refine y1 ?_ ?_<;>intro c48
 refine kA3 ?_;refine F9 (Ev.tmp rfl) (E3 Ek (Ev.tmp rfl) Ek) (a5p 1 t.proto 0 b4 a' c' E (toks t) _ _ (by omega) (by unfold toks;rw[hD,hE];unfold lastT;rw[c43,c48];rfl)) Lb ?_;rintro _ _ ⟨a55,p55,rfl,rfl⟩;refine ZZ [0,3,0] ?_;refine w2 (.row (.slice a55 (toks t).length p55) 116 4 (toks t).length (fl B1 (toks t))::h) ?_;exact⟨a55,p55,by rw[K1 d12],by rw[K1 d12]⟩;refine kA1 ?_;refine F9 (Ev.tmp rfl) (E3 Ek Ek Ek) (a5p 2 a2Z 0 b4 a' c' E (toks t) _ _ (by omega) (by unfold toks;rw[hD,hE];unfold lastT;rw[c43,c48];rfl)) Lb ?_;rintro _ _ ⟨a42,p42,rfl,rfl⟩;refine ZZ [0,3,0] ?_;refine w2 (.row (.slice a42 (toks t).length p42) 116 4 (toks t).length (fl B1 (toks t))::h) ?_;exact⟨a42,p42,by rw[K1 d12],by rw[K1 d12]⟩
abbrev FL(b1 b2 b3 b5:Nat)(a:Oa)(k c:Nat)(t:Ty)(n:Nat):Lr:=
 [.pt b5 (.cells [Value.func (.func 249) [].toArray [Value.pointer (some ⟨b3,0,none⟩),.pointer (some ⟨b1,0,none⟩)].toArray].toArray 271 (0,0)),
  .pt b3 (.cells [Value.int .i64 n].toArray 3 (0,0)),.pt b2 (.cells (E9 t).toArray 37 (0,0)),.pt b1 (.cells [Value.slice a k c].toArray 87 (0,0))]
theorem U1(b1 b2 b3 b5:Nat)(a:Oa)(k c:Nat)(l:Lt)(t:Ty)(n:Nat)(kd:Int)(s:B)(h:Lr)(m:View)(hs:Rd m h a k c 4 (fl B1 l))(hn:n<=k) :
 CT prog 249 [.int .u8 kd,str s,.pointer (some ⟨b3,0,none⟩),.pointer (some ⟨b1,0,none⟩)] (FL b1 b2 b3 b5 a k c t n++h) m (A5 (FL b1 b2 b3 b5 a k c t (nx (next l n kd s) n)++h) (.bool (next l n kd s))):=by
 have hl:=hs.lenF A7 (by decide);subst hl;have hmx:=hs.mx;have hle:=hs.le;have hq:n<l.length->l[n]?=some (G1 l n):=a1q;refine cB [0,1,2,3,6,40] func249 λ_=>?_;refine ZZ [1,5] ?_;refine zG (λ_=>pL a2O) ?_;refine zG (λ_=>pL uu3) ?_;refine C2 (GU.f rfl rfl) (λhc=>D7 B3.und B3.size B3.posz (Eg hc) (Eg hc) Rr rfl (by simp at hc;omega)) Lb ?_;refine C2 (GU.f rfl rfl) (λhc=>D0 C7 rfl (qf rfl) A7 (qu _) Rr (hq (by simp at hc;omega)) (Eg hc)) Lb ?_;refine C2 (GU.f rfl rfl) (λhc=>D2 a2H rfl A7 Rr (Eg hc) (hq (by simp at hc;omega)) rfl) Lb ?_;refine kA4 ?_;refine zG (λ_=>pL a2O) ?_;refine zG (λ_=>pL uu3) ?_;refine C2 (GU.f rfl rfl) (λhc=>D7 B3.und B3.size B3.posz (Eg hc) (Eg hc) Rr rfl (by simp at hc;omega)) Lb ?_;refine C2 (GU.f rfl rfl) (λhc=>D0 C7 rfl (qf rfl) A7 (qu _) Rr (hq (by simp at hc;omega)) (Eg hc)) Lb ?_;refine C2 (GU.f rfl rfl) (λhc=>D2 uu9 rfl A7 Rr (Eg hc) (hq (by simp at hc;omega)) rfl) Lb ?_;refine kA1 ?_;refine zG (λhc=>P2 (Eg hc) (Eg hc)) ?_
 refine kA5 ?_;refine zG (λ_=>pL a2O) ?_;refine zG (λ_=>pL uu3) ?_;refine C2 (a0m rfl rfl) (λhc=>D7 B3.und B3.size B3.posz (Eg hc) (Eg hc) Rr rfl (by simp at hc;omega)) Lb ?_;refine C2 (a0m rfl rfl) (λhc=>D0 C7 rfl (qf rfl) A7 (qu _) Rr (hq (by simp at hc;omega)) (Eg hc)) Lb ?_;refine C2 (a0m rfl rfl) (λhc=>D2 a0R rfl A7 Rr (Eg hc) (hq (by simp at hc;omega)) rfl) Lb ?_;refine kA1 ?_;refine zG (λhc=>N3 hc rfl rfl) ?_;refine y1 ?_ ?_<;>intro c40
 have d:next l n kd s=false:=by unfold next;rw[show a0z l n kd s=true from c40];rfl
 refine Z1 ?_;refine wT (FL b1 b2 b3 b5 a l.length c t n++h) ?_;rw[d];exact⟨rfl,rfl⟩
 have d:next l n kd s=true:=by unfold next;rw[show a0z l n kd s=false from c40];rfl
 have hlt:=a4v d;refine ZZ [0,3,1,0] ?_;refine wT (FL b1 b2 b3 b5 a l.length c t (n+1)++h) ?_;rw[d];exact⟨rfl,rfl⟩
theorem b96(x1 x2 x3 x5:Nat)(a:Oa)(k c:Nat)(l:Lt)(t:Ty)(n:Nat)(h:Lr)(m:View)(hg:Glob m)(hs:Rd m h a k c 4 (fl B1 l))(hn:n<=k) :
 CT prog 250 [.pointer (some ⟨x2,0,none⟩),.pointer (some ⟨x5,0,none⟩)] (FL x1 x2 x3 x5 a k c t n++h) m (A5 (FL x1 x2 x3 x5 a k c (a5L t (named l n)) (nx (nmB l n) n)++h) (.bool (nmB l n))):=by
 refine cB [0,1,3,5,6,7,8,13] func250 λ_=>?_;refine Z1 ?_;refine xG (I8 (vs:=fl c1f prims) a8m rfl rfl Ev.global rfl (λj v hj=>by rw[qI];exact hg.prim j v hj)) ?_;refine Z1 ?_;refine lI [0,1,6] (λμ F' h'=>∃i:Nat,(i<=3/\named l n=a2i l n (prims.drop i))/\3-i=μ/\F'=[(7,.int .i64 i)]/\FL x1 x2 x3 x5 a k c t n++h=h') (3-0) [(7,.int .i64 0)] (FL x1 x2 x3 x5 a k c t n++h) ⟨0,⟨by omega,rfl⟩,rfl,rfl,rfl⟩ ?_;rintro _ _ _ ⟨i,⟨hk,hJ⟩,rfl,rfl,rfl⟩;refine A9 rfl ?_;refine y4 ?_ ?_<;>intro c8
 obtain⟨p,hp⟩:=A8 (l:=prims) (k:=i) (by show i<3;omega);rw[a6U l n hp]at hJ;refine Z0 ?_;refine xG (a7w (sz:=3) (q:=i) a8m b4g rfl rfl Et Et rfl (by omega) (b0q hp)) ?_;refine xW λb5=>?_
 refine ZZ [1,3] ?_;refine F9 (Ev.tmp rfl) (E2 Ek (Ev.tmp rfl)) (CT.frame (fr:=[_]) (hs:=h) (U1 x1 x2 x3 x5 a k c l t n 2 p.word _ _ (hs.mono Vl (qo _ _)) hn)) Lb ?_;rintro _ _ ⟨rfl,rfl⟩;refine y0 ?_ ?_<;>intro c13
 rw[c13]at hJ;rw[c13];refine ZZ [5,1,0] ?_;refine wT (FL x1 x2 x3 x5 a k c (a5L t (some p.kind)) (n+1)++h) ?_;rw[nmB,hJ];exact⟨rfl,rfl⟩
 rw[c13]at hJ;rw[c13];refine ZZ [0,2] ?_;exact WL.nil (lN (3-(i+1)) [(7,.int .i64 (i+1))] (FL x1 x2 x3 x5 a k c t n++h) ⟨i+1,⟨by omega,by simpa using hJ⟩,rfl,rfl,rfl⟩);rw[qb (by show 3<=i;omega)]at hJ;refine ZZ [0,1,0] ?_;refine wT (FL x1 x2 x3 x5 a k c t n++h) ?_;rw[nmB,hJ];exact⟨rfl,rfl⟩
theorem b9b(x1 x2 x3 x5:Nat)(a:Oa)(k c:Nat)(l:Lt)(t:Ty)(n:Nat)(h:Lr)(m:View)(hg:Glob m)(hs:Rd m h a k c 4 (fl B1 l))(hn:n<=k) :
 CT prog 250 [.pointer (some ⟨x2,2,none⟩),.pointer (some ⟨x5,0,none⟩)] (FL x1 x2 x3 x5 a k c t n++h) m (A5 (FL x1 x2 x3 x5 a k c (a6H t (named l n)) (nx (nmB l n) n)++h) (.bool (nmB l n))):=by
 refine cB [0,1,3,5,6,7,8,13] func250 λ_=>?_;refine Z1 ?_;refine xG (I8 (vs:=fl c1f prims) a8m rfl rfl Ev.global rfl (λj v hj=>by rw[qI];exact hg.prim j v hj)) ?_;refine Z1 ?_;refine lI [0,1,6] (λμ F' h'=>∃i:Nat,(i<=3/\named l n=a2i l n (prims.drop i))/\3-i=μ/\F'=[(7,.int .i64 i)]/\FL x1 x2 x3 x5 a k c t n++h=h') (3-0) [(7,.int .i64 0)] (FL x1 x2 x3 x5 a k c t n++h) ⟨0,⟨by omega,rfl⟩,rfl,rfl,rfl⟩ ?_;rintro _ _ _ ⟨i,⟨hk,hJ⟩,rfl,rfl,rfl⟩;refine A9 rfl ?_;refine y4 ?_ ?_<;>intro c8
 obtain⟨p,hp⟩:=A8 (l:=prims) (k:=i) (by show i<3;omega);rw[a6U l n hp]at hJ;refine Z0 ?_;refine xG (a7w (sz:=3) (q:=i) a8m b4g rfl rfl Et Et rfl (by omega) (b0q hp)) ?_;refine xW λb5=>?_
 refine ZZ [1,3] ?_;refine F9 (Ev.tmp rfl) (E2 Ek (Ev.tmp rfl)) (CT.frame (fr:=[_]) (hs:=h) (U1 x1 x2 x3 x5 a k c l t n 2 p.word _ _ (hs.mono Vl (qo _ _)) hn)) Lb ?_;rintro _ _ ⟨rfl,rfl⟩;refine y0 ?_ ?_<;>intro c13
 rw[c13]at hJ;rw[c13];refine ZZ [5,1,0] ?_;refine wT (FL x1 x2 x3 x5 a k c (a6H t (some p.kind)) (n+1)++h) ?_;rw[nmB,hJ];exact⟨rfl,rfl⟩
 rw[c13]at hJ;rw[c13];refine ZZ [0,2] ?_;exact WL.nil (lN (3-(i+1)) [(7,.int .i64 (i+1))] (FL x1 x2 x3 x5 a k c t n++h) ⟨i+1,⟨by omega,by simpa using hJ⟩,rfl,rfl,rfl⟩);rw[qb (by show 3<=i;omega)]at hJ;refine ZZ [0,1,0] ?_;refine wT (FL x1 x2 x3 x5 a k c t n++h) ?_;rw[nmB,hJ];exact⟨rfl,rfl⟩
theorem front_ct(a:Oa)(k c:Nat)(l:Lt)(h:Lr)(m:View)(hg:Glob m)(hs:Rd m h a k c 4 (fl B1 l))(hT:TkOk l) :
 CT prog 174 [.slice a k c] h m (A5 h (.tuple #[tyV (front l).1,.int .i64 (front l).2.1,.int .i64 (front l).2.2])):=by
 have hl:=hs.lenF A7 (by decide);subst hl;have hmx:=hs.mx;have hle:=hs.le;refine cB [1,2,3,4,5,6,7,14,30,38,65,73,83] func174 λ_=>?_;refine xX λb1=>?_
 refine xW λb2=>?_;refine xW λb3=>?_
 refine Z1 ?_;refine xG (PO.makeFunc Evs.nil (E2 Et Et)) ?_;refine xW λb5=>?_;refine Z1 ?_;refine xG (PO.makeFunc Evs.nil (E1 Et)) ?_;refine ZZ [1,1,0] ?_;refine a4q (h':=FL b1 b2 b3 b5 a l.length c zeroT 0++h) rfl ?_;refine kA1 ?_;refine F9 (Ev.tmp rfl) (E2 Ek Ek) (U1 b1 b2 b3 b5 a _ c l zeroT 0 5 lb h _ hs (by omega)) Lb ?_;rintro _ _ ⟨rfl,rfl⟩;refine kP0 [1,2,3,5,6,7,11] ?_;refine D6 KKh [1,2,3,5,6] rfl (λF' h'=>∃ok:Bool,∃d:Int,∃n:Nat,(pre l=(ok,d,n)/\n<=l.length)/\F'=[(7,.bool ok)]/\FL b1 b2 b3 b5 a l.length c ⟨0,d,0,[]⟩ n++h=h') ?_ ?_;refine jE ?_;refine wc ?_ ?_<;>intro c11
 have hl0:=a4v c11;refine X9 (h':=FL b1 b2 b3 b5 a l.length c zeroT 1++h) (by rw[c11];rfl) ?_;refine kA1 ?_;refine F9 (Ev.tmp rfl) (E2 Ek Ek) (U1 b1 b2 b3 b5 a _ c l zeroT 1 3 [] h _ hs (by omega)) Lb ?_;rintro _ _ ⟨rfl,rfl⟩;refine ZZ [1,1,0] ?_;refine wc ?_ ?_<;>intro c14
 have hl1:=a4v c14;have h1:=a1q hl1;have hw:=(hT _ (qe h1)).1;refine X9 (h':=FL b1 b2 b3 b5 a l.length c zeroT 2++h) (by rw[c14];rfl) ?_;refine kA2 ?_;refine xG (P3 Et Ek (by omega)) ?_;refine xG (D7 B3.und B3.size B3.posz (Ev.tmp rfl) (Ev.tmp rfl) Rr (q:=1) (by omega) (by omega)) ?_;refine kA2 ?_;refine xG (PO.conv a0R uu3 Et) ?_;refine WL.val (v':=.int .i64 (G1 l 1).n) (congrArg (Value.int .i64) (wrapN hw)) ?_;refine kA2 ?_;refine a4q (h':=FL b1 b2 b3 b5 a l.length c ⟨0,(G1 l 1).n,0,[]⟩ 2++h) rfl ?_;refine ZZ [0,4] ?_;refine zG (λ_=>pL c3N) ?_;refine a60 (GU.t rfl rfl) (λhc=>⟨(a04 rfl hc),(E2 Ek Ek),CT.outE (h2:=FL b1 b2 b3 b5 a l.length c ⟨0,(G1 l 1).n,0,[]⟩ (nx (decide ((G1 l 1).n>0)&&next l 2 5 rb) 2)++h) (by rw[hc,qG]) (U1 b1 b2 b3 b5 a _ c l ⟨0,(G1 l 1).n,0,[]⟩ 2 5 rb h _ hs (by omega))⟩) (λhc=>(by rw[hc];rfl)) Lb ?_;refine kA2 ?_
 exact WL.nil (mN [(7,.bool ((decide ((G1 l 1).n>0)&&next l 2 5 rb)))] (FL b1 b2 b3 b5 a l.length c ⟨0,((G1 l 1).n),0,[]⟩ (nx (decide ((G1 l 1).n>0)&&next l 2 5 rb) 2)++h) ⟨(decide ((G1 l 1).n>0)&&next l 2 5 rb),(G1 l 1).n,nx (decide ((G1 l 1).n>0)&&next l 2 5 rb) 2,⟨b6m c11 c14,c2D (λe=>a4v (by simp at e;exact e.2)) (by omega)⟩,rfl,rfl⟩);refine X9 (h':=FL b1 b2 b3 b5 a l.length c zeroT 1++h) (by rw[c14];rfl) ?_;refine WC.skip (b0b [(7,.bool false)] (h'':=FL b1 b2 b3 b5 a l.length c ⟨0,0,0,[]⟩ 1++h) ?_ Su Sb ⟨false,0,1,⟨c0X c11 c14,by omega⟩,rfl,rfl⟩);refine Sub.consE rfl (congrArg Value.bool c14) ?_;exact Su;refine X9 (h':=FL b1 b2 b3 b5 a l.length c zeroT 0++h) (by rw[c11];rfl) ?_;exact WC.skip (mN [(7,.bool true)] (FL b1 b2 b3 b5 a l.length c ⟨0,0,0,[]⟩ 0++h) ⟨true,0,0,⟨c1Q c11,by omega⟩,rfl,rfl⟩);rintro _ _ ⟨ok,d,n,⟨hP,hn⟩,rfl,rfl⟩;refine A9 rfl ?_;refine jS ?_
 refine D6 KKh [2,3] rfl (λF' h'=>∃okB:Bool,∃t:Ty,∃nB:Nat,(mid l=(okB,t,nB)/\t.proto.length<=9223372036854775807)/\F'=[(7,.bool okB)]/\FL b1 b2 b3 b5 a l.length c t nB++h=h') ?_ ?_;refine kA5 ?_;refine a60 (GU.f rfl rfl) (λhc=>⟨(a04 rfl hc),(E1 (a04 rfl hc)),CT.outE (h2:=FL b1 b2 b3 b5 a l.length c (a5L ⟨0,d,0,[]⟩ (if ok then named l n else none)) (nx (ok&&nmB l n) n)++h) (by revert hc;cases ok;exact λhc=>absurd hc (by decide);exact λ_=>rfl) (b96 b1 b2 b3 b5 a _ c l ⟨0,d,0,[]⟩ n h _ hg hs hn)⟩) (λhc=>(by revert hc;cases ok;exact λ_=>rfl;exact λhc=>absurd hc (by decide))) Lb ?_;refine y2 ?_ ?_<;>intro c30
 exact WC.skip (mN [(7,.bool ok)] (FL b1 b2 b3 b5 a l.length c (a5L ⟨0,d,0,[]⟩ (if ok then named l n else none)) (nx (ok&&nmB l n) n)++h) ⟨ok,a5L ⟨0,d,0,[]⟩ (if ok then named l n else none),nx (ok&&nmB l n) n,⟨c4v hP c30,by cases ok;exact qi _;cases named l n;exact qi _;exact qi _⟩,rfl,rfl⟩);obtain⟨rfl,hnm⟩:ok=true/\nmB l n=false:=by revert c30;cases ok<;>simp
 have hN:=b5Q hnm;refine X9 (h':=FL b1 b2 b3 b5 a l.length c ⟨0,d,0,[]⟩ n++h) (by rw[hN,hnm];rfl) ?_;refine kA1 ?_;refine F9 (Ev.tmp rfl) (E2 Ek Ek) (U1 b1 b2 b3 b5 a _ c l ⟨0,d,0,[]⟩ n 2 a1e h _ hs hn) Lb ?_;rintro _ _ ⟨rfl,rfl⟩;refine y1 ?_ ?_<;>intro c38
 have hln:=a4v c38;refine X9 (h':=FL b1 b2 b3 b5 a l.length c ⟨0,d,0,[]⟩ (n+1)++h) (by rw[c38];rfl) ?_;refine kA2 ?_;refine a4q (h':=FL b1 b2 b3 b5 a l.length c ⟨4,d,0,[]⟩ (n+1)++h) rfl ?_;refine ZZ [0,1] ?_;refine F9 (Ev.tmp rfl) (E2 Ek Ek) (U1 b1 b2 b3 b5 a _ c l ⟨4,d,0,[]⟩ (n+1) 2 cOF h _ hs (by omega)) Lb ?_;rintro _ _ ⟨rfl,rfl⟩;refine kA1 ?_;refine wn [1,2,3,5,6,7] ?_;refine jE ?_;have hNle:nx (next l (n+1) 2 cOF) (n+1)<=l.length:=c2D (λe=>a4v e) (by omega);generalize ho:next l (n+1) 2 cOF=o at *;generalize hNN:nx o (n+1)=N at *;have hN2le:nx (o&&nmB l N) N<=l.length:=c2D (λe=>c8v (by simp at e;exact e.2)) hNle;refine WC.take (r:=.pt b2 (.cells (E9 ⟨4,d,0,[]⟩).toArray 37 (0,0))) De ?_;refine WC.take (r:=.pt b3 (.cells [Value.int .i64 N].toArray 3 (0,0))) De ?_
 refine F4 [4,8,16] (.op 0 (.op 1 (.op 2 (.op 3 (.op 4 (.op 5 (.op 6 (.op 7 (.op 9 (.op 10 (.op 8 (.op 11 (.op 12 (.op 13 (.op 14 (.op 15 (.op 16 (.op 17 (.op 18 (.op 19 .nil)))))))))))))))))))) [20,21] _ [.pt b3 (.cells [Value.int .i64 N].toArray 3 (0,0)),.pt b2 (.cells (E9 ⟨4,d,0,[]⟩).toArray 37 (0,0))] C9 (λ_ _ _ _ _ h=>h) [] (by kernel_rfl) ?_;refine kA2 ?_;refine B2 rfl rfl (GU.t rfl rfl) (λhc=>PO.move Et) Lb ?_;refine kA1 ?_;refine b94 rfl rfl (GU.t rfl rfl) (λhc=>⟨(a04 rfl hc),(E1 (a04 rfl hc)),λfr=>CT.perm (b1V _ _ _ _) (CT.outE (h2:=FL b1 b2 b3 b5 a l.length c (a6H ⟨4,d,0,[]⟩ (if o then named l N else none)) (nx (o&&nmB l N) N)++(fr++h)) (by rw[hc];rfl) (b9b b1 b2 b3 b5 a _ c l ⟨4,d,0,[]⟩ N (fr++h) _ hg (hs.mono Vl (qc _ _)) hNle)) (b1V _ _ _ _).symm⟩) (λhc=>(by rw[hc];rfl)) Lb ?_;generalize hN2:nx (o&&nmB l N) N=N2 at *
 generalize hT2:a6H ⟨4,d,0,[]⟩ (if o then named l N else none)=T2;have hq:N2<l.length->l[N2]?=some (G1 l N2):=a1q;refine B2 rfl rfl (GU.t rfl rfl) (λhc=>PO.not (Eg hc)) Lb ?_;refine kA2 ?_;refine B2 rfl rfl (GU.t rfl rfl) (λhc=>C8 a2O rfl Et Me rfl) Lb ?_;refine B2 rfl rfl (GU.t rfl rfl) (λhc=>R8 a2O (Eg hc)) Lb ?_;refine b8d rfl rfl (GU.t rfl rfl) (λhc fr=>C8 uu3 rfl Et (qE _ Me) rfl) Lb ?_;refine B2 rfl rfl (GU.t rfl rfl) (λhc=>O4 (Eg hc) (Eg hc) rfl) Lb ?_;refine kA2 ?_;refine B2 rfl rfl (GU.t rfl rfl) (λhc=>C8 c3N rfl Et Me rfl) Lb ?_;refine B2 rfl rfl (GU.t rfl rfl) (λhc=>C8 a2O rfl Et Me rfl) Lb ?_;refine b8d rfl rfl (GU.t rfl rfl) (λhc fr=>C8 uu3 rfl Et (qE _ Me) rfl) Lb ?_;refine B2 rfl rfl (GU.t rfl rfl) (λhc=>D7 B3.und B3.size B3.posz (Eg hc) (Eg hc) Rr rfl (by simp at hc;omega)) Lb ?_
 refine B2 rfl rfl (GU.t rfl rfl) (λhc=>D0 C7 rfl (qf rfl) A7 (qu _) Rr (hq (by simp at hc;omega)) (Eg hc)) Lb ?_;refine B2 rfl rfl (GU.t rfl rfl) (λhc=>D2 uu9 rfl A7 Rr (Eg hc) (hq (by simp at hc;omega)) rfl) Lb ?_;refine nS ?_;refine WL.take (r:=.pt b5 (.cells [Value.func (.func 249) [].toArray [Value.pointer (some ⟨b3,0,none⟩),.pointer (some ⟨b1,0,none⟩)].toArray].toArray 271 (0,0))) De ?_;refine a60 (GU.t rfl rfl) (λhc=>⟨(a04 rfl hc),(E2 Ek (a04 rfl hc)),CT.outE (h2:=FL b1 b2 b3 b5 a l.length c T2 (nx ((o&&!nmB l N)&&decide ((N2:Int)<l.length)&&next l N2 1 (G1 l N2).text) N2)++h) (by rw[hc,qG]) (U1 b1 b2 b3 b5 a _ c l T2 N2 1 (G1 l N2).text h _ hs hN2le)⟩) (λhc=>(by rw[hc];rfl)) Lb ?_;refine y1 ?_ ?_<;>intro c65
 have d65:((o&&!nmB l N)&&decide ((N2:Int)<l.length)&&next l N2 1 (G1 l N2).text)=true:=c65;have hM:=c1Y hP hN c38 ho hNN hN2 hT2 d65;have hlt:N2<l.length:=by simp at d65;omega
 have h2:=a1q hlt;refine X9 (h':=FL b1 b2 b3 b5 a l.length c T2 (N2+1)++h) (by rw[d65];rfl) ?_;refine kA2 ?_;refine xG (P3 Et Ek (by omega)) ?_;refine xG (D7 B3.und B3.size B3.posz (Ev.tmp rfl) (Ev.tmp rfl) Rr (q:=N2) (by omega) (by omega)) ?_;refine kA4 ?_;refine a4q (h':=FL b1 b2 b3 b5 a l.length c { T2 with proto:=(G1 l N2).text } (N2+1)++h) rfl ?_;exact WL.nil (mN [(7,.bool o)] (FL b1 b2 b3 b5 a l.length c ({ T2 with proto:=(G1 l N2).text }) (N2+1)++h) ⟨o,{ T2 with proto:=(G1 l N2).text },N2+1,⟨hM,(hT _ (qe h2)).2⟩,rfl,rfl⟩);have d65:((o&&!nmB l N)&&decide ((N2:Int)<l.length)&&next l N2 1 (G1 l N2).text)=false:=c65;have hM:=c1Y hP hN c38 ho hNN hN2 hT2 d65;refine X9 (h':=FL b1 b2 b3 b5 a l.length c T2 N2++h) (by rw[d65];rfl) ?_
 exact WC.skip (mN [(7,.bool o)] (FL b1 b2 b3 b5 a l.length c T2 N2++h) ⟨o,T2,N2,⟨hM,by rw[<-hT2];cases o;exact qi _;cases named l N;exact qi _;exact qi _⟩,rfl,rfl⟩);refine X9 (h':=FL b1 b2 b3 b5 a l.length c ⟨0,d,0,[]⟩ n++h) (by rw[c38];rfl) ?_;refine kA1 ?_;refine F9 (Ev.tmp rfl) (E2 Ek Ek) (U1 b1 b2 b3 b5 a _ c l ⟨0,d,0,[]⟩ n 2 a2Z h _ hs hn) Lb ?_;rintro _ _ ⟨rfl,rfl⟩;refine y1 ?_ ?_<;>intro c73
 refine X9 (h':=FL b1 b2 b3 b5 a l.length c ⟨0,d,0,[]⟩ (n+1)++h) (by rw[c73];rfl) ?_;refine kA2 ?_;refine a4q (h':=FL b1 b2 b3 b5 a l.length c ⟨5,d,0,[]⟩ (n+1)++h) rfl ?_;exact WL.nil (mN [(7,.bool true)] (FL b1 b2 b3 b5 a l.length c (⟨5,d,0,[]⟩) (n+1)++h) ⟨true,⟨5,d,0,[]⟩,n+1,⟨b3b hP hN c38 c73,qi _⟩,rfl,rfl⟩);refine X9 (h':=FL b1 b2 b3 b5 a l.length c ⟨0,d,0,[]⟩ n++h) (by rw[c73];rfl) ?_;exact WC.skip (mN [(7,.bool true)] (FL b1 b2 b3 b5 a l.length c (⟨0,d,0,[]⟩) n++h) ⟨true,⟨0,d,0,[]⟩,n,⟨b7z hP hN c38 c73,qi _⟩,rfl,rfl⟩);rintro _ _ ⟨okB,t,nB,⟨hM,hpl⟩,rfl,rfl⟩;refine A9 rfl ?_;refine kA3 ?_;refine zG (λ_=>pA a7s) ?_;refine A3 (GU.f rfl rfl) (λhc=>⟨Ef,(E1 (Eg hc)),may_ct t _ _ hg hpl⟩) Lb ?_;refine y2 ?_ ?_<;>intro c83
 have hF:=b4Q hM c83;refine Z4 ?_;refine WC.ret (c7o (h':=h) (.inl rfl) rfl (W6 a7s rfl rfl rfl Me rfl) (a0q uu3 rfl rfl Me rfl) (RV.tmp rfl) Vl Sb ?_);exact⟨by rw[hF];rfl,rfl⟩;have hF:=b2k hM c83;refine WC.skip (kp [2,3] ?_);refine jE ?_;refine WC.take (r:=.pt b2 (.cells (E9 t).toArray 37 (0,0))) De ?_;refine F4 [0,2] (.op 1 (.op 0 (.op 2 .nil))) [3,4] _ [.pt b2 (.cells (E9 t).toArray 37 (0,0))] C9 (λ_ _ _ _ _ h=>h) [] (by kernel_rfl) ?_;refine kA1 ?_;refine b2O rfl rfl (λfr=>a0n a7s rfl rfl Et (qE _ Me) rfl) Lb ?_;refine SR.store rfl rfl rfl Et Et rfl rfl rfl rfl Up ?_;refine nS ?_;refine Z2 ?_;refine WC.ret (c7o (h':=h) (.inl rfl) rfl (W6 a7s rfl rfl rfl Me rfl) (a0q uu3 rfl rfl Me rfl) (RV.tmp rfl) Vl Sb ?_);exact⟨by rw[hF];rfl,rfl⟩
end
end Go.Proofs.YtgcjpahhljmlmaaGreatDoor.Ty9
namespace Go.Proofs.YtgcjpahhljmlmaaGreatDoor
open Go.Proofs.Tryz
section
open Go.Eng Go.Xp Go
open Go.Lx (encB C0)
theorem b7R(x:Ex):∀(y:Ex)(h:Lr)(m:View),TOk m h x->TOk m h y->CT prog 230 [exV x,exV y] h m (A5 h (.bool (F5 x y))):=by
 refine Ex.ind (p:=λx=>∀(y:Ex)(h:Lr)(m:View),TOk m h x->TOk m h y->CT prog 230 [exV x,exV y] h m (A5 h (.bool (F5 x y)))) (λx ih y h m hx hy=>?_) x;have r1:=hx.rd;have r2:=hy.rd;have mx:=r1.mx;have kx:=r1.le;have he:=b0l x y;refine cB [2,3,4,5,47,50,51,52,65] func230 λ_=>?_;refine xX λb2=>?_
 refine xX λb3=>?_;refine ZZ [1,12] ?_;refine b0g ?_;refine kA7 ?_;refine zG (λhc=>P2 (Eg hc) (Eg hc)) ?_;refine Z10 ?_;refine wc ?_ ?_<;>intro c47
 replace c47:b0O x y=true:=c47;rw[c47]at he;refine Z1 ?_;refine wT h ?_;exact⟨by rw[he];rfl,rfl⟩;replace c47:b0O x y=false:=c47;rw[c47]at he;have hl:x.l.length=y.l.length:=by unfold b0O at c47;simp only[qA,bne_eq_false_iff_eq]at c47;omega
 refine ZZ [0,4,0] ?_;refine lI [2,3,50] (λμ F' h'=>∃k:Nat,(k<=x.l.length/\F5 x y=a1Q (x.l.drop k) (y.l.drop k))/\x.l.length-k=μ/\F'=[(51,.int .i64 k)]/\.pt b3 (.cells (exE y).toArray 29 (0,0))::.pt b2 (.cells (exE x).toArray 29 (0,0))::h=h') (x.l.length-0) [(51,.int .i64 0)] (.pt b3 (.cells (exE y).toArray 29 (0,0))::.pt b2 (.cells (exE x).toArray 29 (0,0))::h) ⟨0,⟨by omega,by rw[he];rfl⟩,rfl,rfl,rfl⟩ ?_;rintro _ _ _ ⟨k,⟨hk,hJ⟩,rfl,rfl,rfl⟩;refine A9 rfl ?_;have q1:Rd m (.pt b3 (.cells (exE y).toArray 29 (0,0))::.pt b2 (.cells (exE x).toArray 29 (0,0))::h) x.a x.l.length x.c 6 (fl exE x.l):=r1.mono Vl Sb;have q2:Rd m (.pt b3 (.cells (exE y).toArray 29 (0,0))::.pt b2 (.cells (exE x).toArray 29 (0,0))::h) y.a y.l.length y.c 6 (fl exE y.l):=r2.mono Vl Sb;refine y4 ?_ ?_<;>intro c52
 obtain⟨u,hu⟩:=A8 (l:=x.l) (k:=k) (by omega);obtain⟨v,hv⟩:=A8 (l:=y.l) (k:=k) (by omega);rw[b4W hu hv]at hJ;have mu:=qe hu;have mv:=qe hv;refine ZZ [0,2,0] ?_;refine dS [] (.op 0 (.op 1 (.op 2 (.op 3 (.op 4 (.op 5 (.op 6 (.op 7 (.op 8 (.op 9 .nil)))))))))) [10,11] C9 ?_;refine b8A ?_;refine nS ?_;refine xf (E2 Et Et) (ih u mu v _ _ ((hx.part mu).mono Sb) ((hy.part mv).mono Sb)) ?_;refine y1 ?_ ?_<;>intro c65
 have d65:F5 u v=false:=by simpa using c65
 rw[d65]at hJ;refine Z1 ?_;refine wT h ?_;exact⟨by rw[hJ];rfl,rfl⟩;have d65:F5 u v=true:=by simpa using c65
 rw[d65]at hJ;refine ZZ [0,2] ?_;exact WL.nil (lN (x.l.length-(k+1)) [(51,.int .i64 (k+1))] (.pt b3 (.cells (exE y).toArray 29 (0,0))::.pt b2 (.cells (exE x).toArray 29 (0,0))::h) ⟨k+1,⟨by omega,by rw[hJ];rfl⟩,rfl,rfl,rfl⟩);rw[qb (by omega)]at hJ;refine ZZ [0,1,0] ?_;refine wT h ?_;exact⟨by rw[hJ];rfl,rfl⟩
theorem a1W(x:Ex):∀(y:Ex)(h:Lr)(m:View),TOk m h x->TOk m h y->CT prog 14 [exV x,exV y] h m (A5 h (.bool (F5 x y))):=by
 refine Ex.ind (p:=λx=>∀(y:Ex)(h:Lr)(m:View),TOk m h x->TOk m h y->CT prog 14 [exV x,exV y] h m (A5 h (.bool (F5 x y)))) (λx ih y h m hx hy=>?_) x;have r1:=hx.rd;have r2:=hy.rd;have mx:=r1.mx;have kx:=r1.le;have he:=b0l x y;refine cB [2,3,4,5,47,52,66] func14 λ_=>?_;refine xX λb2=>?_
 refine xX λb3=>?_;refine ZZ [1,12] ?_;refine b0g ?_;refine kA7 ?_;refine zG (λhc=>P2 (Eg hc) (Eg hc)) ?_;refine Z10 ?_;refine wc ?_ ?_<;>intro c47
 replace c47:b0O x y=true:=c47;rw[c47]at he;refine Z1 ?_;refine wT h ?_;exact⟨by rw[he];rfl,rfl⟩;replace c47:b0O x y=false:=c47;rw[c47]at he;have hl:x.l.length=y.l.length:=by unfold b0O at c47;simp only[qA,bne_eq_false_iff_eq]at c47;omega
 refine ZZ [0,1,0] ?_;refine lI [2,3] (λμ F' h'=>∃k:Nat,(k<=x.l.length/\F5 x y=a1Q (x.l.drop k) (y.l.drop k))/\x.l.length-k=μ/\F'=[(5,.int .i64 k)]/\.pt b3 (.cells (exE y).toArray 29 (0,0))::.pt b2 (.cells (exE x).toArray 29 (0,0))::h=h') (x.l.length-0) [(5,.int .i64 0)] (.pt b3 (.cells (exE y).toArray 29 (0,0))::.pt b2 (.cells (exE x).toArray 29 (0,0))::h) ⟨0,⟨by omega,by rw[he];rfl⟩,rfl,rfl,rfl⟩ ?_;rintro _ _ _ ⟨k,⟨hk,hJ⟩,rfl,rfl,rfl⟩;refine A9 rfl ?_;have q1:Rd m (.pt b3 (.cells (exE y).toArray 29 (0,0))::.pt b2 (.cells (exE x).toArray 29 (0,0))::h) x.a x.l.length x.c 6 (fl exE x.l):=r1.mono Vl Sb;have q2:Rd m (.pt b3 (.cells (exE y).toArray 29 (0,0))::.pt b2 (.cells (exE x).toArray 29 (0,0))::h) y.a y.l.length y.c 6 (fl exE y.l):=r2.mono Vl Sb;refine Z5 ?_;refine wD ?_ ?_<;>intro c52
 obtain⟨u,hu⟩:=A8 (l:=x.l) (k:=k) (by omega);obtain⟨v,hv⟩:=A8 (l:=y.l) (k:=k) (by omega);rw[b4W hu hv]at hJ;have mu:=qe hu;have mv:=qe hv;refine Z0 ?_;refine dS [] (.op 0 (.op 1 (.op 2 (.op 3 (.op 4 (.op 5 (.op 6 (.op 7 (.op 8 (.op 9 .nil)))))))))) [10,11] C9 ?_;refine b8A ?_;refine nS ?_;refine xf (E2 Et Et) (ih u mu v _ _ ((hx.part mu).mono Sb) ((hy.part mv).mono Sb)) ?_;refine y1 ?_ ?_<;>intro c66
 have d65:F5 u v=false:=by simpa using c66
 rw[d65]at hJ;refine Z1 ?_;refine wT h ?_;exact⟨by rw[hJ];rfl,rfl⟩;have d65:F5 u v=true:=by simpa using c66
 rw[d65]at hJ;refine ZZ [0,3] ?_;exact WL.nil (lN (x.l.length-(k+1)) [(5,.int .i64 (k+1))] (.pt b3 (.cells (exE y).toArray 29 (0,0))::.pt b2 (.cells (exE x).toArray 29 (0,0))::h) ⟨k+1,⟨by omega,by rw[hJ];rfl⟩,rfl,rfl,rfl⟩);rw[qb (by omega)]at hJ;refine ZZ [0,1,0] ?_;refine wT h ?_;exact⟨by rw[hJ];rfl,rfl⟩
end
section
open Go.Eng Go.Pc Go
open Go.Xp hiding B E8
open Go.Ty (Ty Vr eqT tyV E9 PrOk VOk prL encV D8 H3 E5)
open Go.Lx (encB C0)
theorem a7D(lo hi n:Int)(h:Lr)(m:View):CT prog 152 [.agg #[.int .i64 lo,.int .i64 hi],.int .i64 n] h m (A5 h (.bool (a9L lo hi n))):=by
 refine cB [1,2,4] func152 λ_=>?_;refine xX λb2=>?_
 refine ZZ [1,11,0] ?_;refine wT h ?_;exact⟨rfl,rfl⟩
theorem c3l(q:FuncId)(cap:Lv)(pr:Ex->Bool)(a:Oa)(k c:Nat)(l:List Ex)(h:Lr)(m:View)(hq:∀x∈l,CT prog q ([exV x]++cap) h m (A5 h (.bool (pr x))))(hs:Rd m h a k c 6 (fl exE l)) :
 CT prog 287 [.slice a k c,.func (.func q) #[] cap.toArray] h m (A5 h (.int .i64 (Go.Ty.idxF pr l 0))):=by
 have hl:=hs.lenF a5T (by decide);have hmx:=hs.mx;have hle:=hs.le;refine cB [0,1,4,5,7,8,9,16] func287 λ_=>?_;refine ZZ [1,3,0] ?_;refine lI [0,1,7] (λμ F' h'=>∃j:Nat,(j<=k/\Go.Ty.idxF pr l 0=Go.Ty.idxF pr (l.drop j) j)/\k-j=μ/\F'=[(8,.int .i64 j)]/\h=h') (k-0) [(8,.int .i64 0)] h ⟨0,⟨by omega,rfl⟩,rfl,rfl,rfl⟩ ?_;rintro _ _ _ ⟨j,⟨hk,hJ⟩,rfl,rfl,rfl⟩;refine A9 rfl ?_;refine y4 ?_ ?_<;>intro c9
 obtain⟨x,hx⟩:=A8 (l:=l) (k:=j) (by omega);rw[Go.Ty.idxF_drop pr hx]at hJ;refine ZZ [0,2,5] ?_;refine P6 (Ev.tmp rfl) (E1 (Ev.tmp rfl)) (hq x (qe hx)) Lb ?_;refine y0 ?_ ?_<;>intro c16
 rw[c16]at hJ;refine Z2 ?_;refine wT h ?_;exact⟨by rw[hJ];rfl,rfl⟩;rw[c16]at hJ;refine ZZ [0,2] ?_;exact WL.nil (lN (k-(j+1)) [(8,.int .i64 (j+1))] h ⟨j+1,⟨by omega,by simpa using hJ⟩,rfl,rfl,rfl⟩);rw[qb (by omega)]at hJ;refine ZZ [0,1,0] ?_;refine wT h ?_;exact⟨by rw[hJ];rfl,rfl⟩
theorem c3M(q:FuncId)(cap:Lv)(pr:Ex->Bool)(a:Oa)(k c:Nat)(l:List Ex)(h:Lr)(m:View)(hq:∀x∈l,CT prog q ([exV x]++cap) h m (A5 h (.bool (pr x))))(hs:Rd m h a k c 6 (fl exE l)) :
 CT prog 231 [.slice a k c,.func (.func q) #[] cap.toArray] h m (A5 h (.bool (l.any pr))):=by
 refine cB [0,1,4] func231 λ_=>?_;refine ZZ [1,2] ?_;refine xf (E2 Et Et) (c3l q cap pr _ _ _ l _ _ hq hs) ?_;refine Z2 ?_;refine wT h ?_;exact⟨congrArg Value.bool (Go.Ty.idxF_any pr l 0 (by decide)),rfl⟩
theorem b6x(q0:FuncId)(c0:Lv)(b:Nat)(x:Ex)(v:Bool)(h:Lr)(m:View)(hb:Res.pt b (.cells [.func (.func q0) #[] c0.toArray].toArray 187 (0,0))∈h)(hq:∀h',h.Sublist h'->CT prog q0 ([exV x]++c0) h' m (A5 h' (.bool v))) :
 CT prog 232 [exV x,.pointer (some ⟨b,0,none⟩)] h m (A5 h (.bool (!v))):=by
 refine cB [1,2,3] func232 λ_=>?_;refine xX λb2=>?_
 refine Z1 ?_;refine xG (C8 c7e rfl Et (qD _ hb) rfl) ?_;refine kA1 ?_;refine P6 (Ev.tmp rfl) (E1 (Ev.tmp rfl)) (hq _ Sb) Lb ?_;refine Z2 ?_;refine wT h ?_;exact⟨rfl,rfl⟩
theorem a5H(q0:FuncId)(c0:Lv)(pr:Ex->Bool)(lo hi:Int)(a:Oa)(k c:Nat)(l:List Ex)(h:Lr)(m:View)(hq:∀x∈l,∀h',h.Sublist h'->CT prog q0 ([exV x]++c0) h' m (A5 h' (.bool (pr x))))(hs:Rd m h a k c 6 (fl exE l)) :
 CT prog 158 [.slice a k c,.agg #[.int .i64 lo,.int .i64 hi],.func (.func q0) #[] c0.toArray] h m (A5 h (.bool (O2 l lo hi pr))):=by
 have hl:=hs.lenF a5T (by decide);subst hl;refine cB [0,4,5,6] func158 λ_=>?_;refine xX λb4=>?_
 refine xX λb5=>?_;refine ZZ [1,3] ?_;refine xf (E2 Et Et) (a7D lo hi l.length _ _) ?_;refine kA2 ?_;refine zG (λ_=>PO.makeFunc Evs.nil (E1 Et)) ?_;refine A3 (GU.t rfl rfl) (λhc=>⟨Ef,(E2 (Eg hc) (Eg hc)),c3M 232 [.pointer (some ⟨b5,0,none⟩)] (λx=>!pr x) _ _ _ l _ _ (λx hx=>b6x q0 c0 b5 x (pr x) _ _ Me (λh' hh=>hq x hx h' (qX Sb hh))) (hs.mono Vl Sb)⟩) Lb ?_;refine Z3 ?_;refine wT h ?_;exact⟨rfl,rfl⟩
theorem c1Z(q:FuncId)(cap:Lv)(pr:Gu->Bool)(a:Oa)(k c:Nat)(l:List Gu)(h:Lr)(m:View)(hq:∀x∈l,CT prog q ([guV x]++cap) h m (A5 h (.bool (pr x))))(hs:Rd m h a k c 23 (fl guE l)) :
 CT prog 286 [.slice a k c,.func (.func q) #[] cap.toArray] h m (A5 h (.int .i64 (Go.Ty.idxF pr l 0))):=by
 have hl:=hs.lenF a6T (by decide);have hmx:=hs.mx;have hle:=hs.le;refine cB [0,1,4,5,7,8,9,16] func286 λ_=>?_;refine ZZ [1,3,0] ?_;refine lI [0,1,7] (λμ F' h'=>∃j:Nat,(j<=k/\Go.Ty.idxF pr l 0=Go.Ty.idxF pr (l.drop j) j)/\k-j=μ/\F'=[(8,.int .i64 j)]/\h=h') (k-0) [(8,.int .i64 0)] h ⟨0,⟨by omega,rfl⟩,rfl,rfl,rfl⟩ ?_;rintro _ _ _ ⟨j,⟨hk,hJ⟩,rfl,rfl,rfl⟩;refine A9 rfl ?_;refine y4 ?_ ?_<;>intro c9
 obtain⟨x,hx⟩:=A8 (l:=l) (k:=j) (by omega);rw[Go.Ty.idxF_drop pr hx]at hJ;refine ZZ [0,2,5] ?_;refine P6 (Ev.tmp rfl) (E1 (Ev.tmp rfl)) (hq x (qe hx)) Lb ?_;refine y0 ?_ ?_<;>intro c16
 rw[c16]at hJ;refine Z2 ?_;refine wT h ?_;exact⟨by rw[hJ];rfl,rfl⟩;rw[c16]at hJ;refine ZZ [0,2] ?_;exact WL.nil (lN (k-(j+1)) [(8,.int .i64 (j+1))] h ⟨j+1,⟨by omega,by simpa using hJ⟩,rfl,rfl,rfl⟩);rw[qb (by omega)]at hJ;refine ZZ [0,1,0] ?_;refine wT h ?_;exact⟨by rw[hJ];rfl,rfl⟩
theorem c2L(q:FuncId)(cap:Lv)(pr:Gu->Bool)(a:Oa)(k c:Nat)(l:List Gu)(h:Lr)(m:View)(hq:∀x∈l,CT prog q ([guV x]++cap) h m (A5 h (.bool (pr x))))(hs:Rd m h a k c 23 (fl guE l)) :
 CT prog 227 [.slice a k c,.func (.func q) #[] cap.toArray] h m (A5 h (.bool (l.any pr))):=by
 refine cB [0,1,4] func227 λ_=>?_;refine ZZ [1,2] ?_;refine xf (E2 Et Et) (c1Z q cap pr _ _ _ l _ _ hq hs) ?_;refine Z2 ?_;refine wT h ?_;exact⟨congrArg Value.bool (Go.Ty.idxF_any pr l 0 (by decide)),rfl⟩
theorem b6t(q0:FuncId)(c0:Lv)(b:Nat)(x:Gu)(v:Bool)(h:Lr)(m:View)(hb:Res.pt b (.cells [.func (.func q0) #[] c0.toArray].toArray 207 (0,0))∈h)(hq:∀h',h.Sublist h'->CT prog q0 ([guV x]++c0) h' m (A5 h' (.bool v))) :
 CT prog 228 [guV x,.pointer (some ⟨b,0,none⟩)] h m (A5 h (.bool (!v))):=by
 refine cB [1,2,3] func228 λ_=>?_;refine xX λb2=>?_
 refine Z1 ?_;refine xG (C8 c6I rfl Et (qD _ hb) rfl) ?_;refine kA1 ?_;refine P6 (Ev.tmp rfl) (E1 (Ev.tmp rfl)) (hq _ Sb) Lb ?_;refine Z2 ?_;refine wT h ?_;exact⟨rfl,rfl⟩
theorem c0d(q0:FuncId)(c0:Lv)(pr:Gu->Bool)(lo hi:Int)(a:Oa)(k c:Nat)(l:List Gu)(h:Lr)(m:View)(hq:∀x∈l,∀h',h.Sublist h'->CT prog q0 ([guV x]++c0) h' m (A5 h' (.bool (pr x))))(hs:Rd m h a k c 23 (fl guE l)) :
 CT prog 153 [.slice a k c,.agg #[.int .i64 lo,.int .i64 hi],.func (.func q0) #[] c0.toArray] h m (A5 h (.bool (O2 l lo hi pr))):=by
 have hl:=hs.lenF a6T (by decide);subst hl;refine cB [0,4,5,6] func153 λ_=>?_;refine xX λb4=>?_
 refine xX λb5=>?_;refine ZZ [1,3] ?_;refine xf (E2 Et Et) (a7D lo hi l.length _ _) ?_;refine kA2 ?_;refine zG (λ_=>PO.makeFunc Evs.nil (E1 Et)) ?_;refine A3 (GU.t rfl rfl) (λhc=>⟨Ef,(E2 (Eg hc) (Eg hc)),c2L 228 [.pointer (some ⟨b5,0,none⟩)] (λx=>!pr x) _ _ _ l _ _ (λx hx=>b6t q0 c0 b5 x (pr x) _ _ Me (λh' hh=>hq x hx h' (qX Sb hh))) (hs.mono Vl Sb)⟩) Lb ?_;refine Z3 ?_;refine wT h ?_;exact⟨rfl,rfl⟩
theorem c0z(q:FuncId)(cap:Lv)(pr:Int->Bool)(a:Oa)(k c:Nat)(l:List Int)(h:Lr)(m:View)(hq:∀x∈l,CT prog q ([.int .i64 x]++cap) h m (A5 h (.bool (pr x))))(hs:Rd m h a k c 1 (fl a1x l)) :
 CT prog 289 [.slice a k c,.func (.func q) #[] cap.toArray] h m (A5 h (.int .i64 (Go.Ty.idxF pr l 0))):=by
 have hl:=hs.lenF a9G (by decide);have hmx:=hs.mx;have hle:=hs.le;refine cB [0,1,4,5,7,8,9,16] func289 λ_=>?_;refine ZZ [1,3,0] ?_;refine lI [0,1,7] (λμ F' h'=>∃j:Nat,(j<=k/\Go.Ty.idxF pr l 0=Go.Ty.idxF pr (l.drop j) j)/\k-j=μ/\F'=[(8,.int .i64 j)]/\h=h') (k-0) [(8,.int .i64 0)] h ⟨0,⟨by omega,rfl⟩,rfl,rfl,rfl⟩ ?_;rintro _ _ _ ⟨j,⟨hk,hJ⟩,rfl,rfl,rfl⟩;refine A9 rfl ?_;refine y4 ?_ ?_<;>intro c9
 obtain⟨x,hx⟩:=A8 (l:=l) (k:=j) (by omega);rw[Go.Ty.idxF_drop pr hx]at hJ;refine ZZ [0,2,5] ?_;refine P6 (Ev.tmp rfl) (E1 (Ev.tmp rfl)) (hq x (qe hx)) Lb ?_;refine y0 ?_ ?_<;>intro c16
 rw[c16]at hJ;refine Z2 ?_;refine wT h ?_;exact⟨by rw[hJ];rfl,rfl⟩;rw[c16]at hJ;refine ZZ [0,2] ?_;exact WL.nil (lN (k-(j+1)) [(8,.int .i64 (j+1))] h ⟨j+1,⟨by omega,by simpa using hJ⟩,rfl,rfl,rfl⟩);rw[qb (by omega)]at hJ;refine ZZ [0,1,0] ?_;refine wT h ?_;exact⟨by rw[hJ];rfl,rfl⟩
theorem c0C(q:FuncId)(cap:Lv)(pr:Int->Bool)(a:Oa)(k c:Nat)(l:List Int)(h:Lr)(m:View)(hq:∀x∈l,CT prog q ([.int .i64 x]++cap) h m (A5 h (.bool (pr x))))(hs:Rd m h a k c 1 (fl a1x l)) :
 CT prog 235 [.slice a k c,.func (.func q) #[] cap.toArray] h m (A5 h (.bool (l.any pr))):=by
 refine cB [0,1,4] func235 λ_=>?_;refine ZZ [1,2] ?_;refine xf (E2 Et Et) (c0z q cap pr _ _ _ l _ _ hq hs) ?_;refine Z2 ?_;refine wT h ?_;exact⟨congrArg Value.bool (Go.Ty.idxF_any pr l 0 (by decide)),rfl⟩
theorem b6h(q0:FuncId)(c0:Lv)(b:Nat)(x:Int)(v:Bool)(h:Lr)(m:View)(hb:Res.pt b (.cells [.func (.func q0) #[] c0.toArray].toArray 119 (0,0))∈h)(hq:∀h',h.Sublist h'->CT prog q0 ([.int .i64 x]++c0) h' m (A5 h' (.bool v))) :
 CT prog 236 [.int .i64 x,.pointer (some ⟨b,0,none⟩)] h m (A5 h (.bool (!v))):=by
 refine cB [0,1,3] func236 λ_=>?_;refine Z1 ?_;refine xG (C8 c6M rfl Et hb rfl) ?_;refine kA1 ?_;refine P6 (Ev.tmp rfl) (E1 (Ev.tmp rfl)) (hq _ Sb) Lb ?_;refine Z2 ?_;refine wT h ?_;exact⟨rfl,rfl⟩
theorem c05(q0:FuncId)(c0:Lv)(pr:Int->Bool)(lo hi:Int)(a:Oa)(k c:Nat)(l:List Int)(h:Lr)(m:View)(hq:∀x∈l,∀h',h.Sublist h'->CT prog q0 ([.int .i64 x]++c0) h' m (A5 h' (.bool (pr x))))(hs:Rd m h a k c 1 (fl a1x l)) :
 CT prog 160 [.slice a k c,.agg #[.int .i64 lo,.int .i64 hi],.func (.func q0) #[] c0.toArray] h m (A5 h (.bool (O2 l lo hi pr))):=by
 have hl:=hs.lenF a9G (by decide);subst hl;refine cB [0,4,5,6] func160 λ_=>?_;refine xX λb4=>?_
 refine xX λb5=>?_;refine ZZ [1,3] ?_;refine xf (E2 Et Et) (a7D lo hi l.length _ _) ?_;refine kA2 ?_;refine zG (λ_=>PO.makeFunc Evs.nil (E1 Et)) ?_;refine A3 (GU.t rfl rfl) (λhc=>⟨Ef,(E2 (Eg hc) (Eg hc)),c0C 236 [.pointer (some ⟨b5,0,none⟩)] (λx=>!pr x) _ _ _ l _ _ (λx hx=>b6h q0 c0 b5 x (pr x) _ _ Me (λh' hh=>hq x hx h' (qX Sb hh))) (hs.mono Vl Sb)⟩) Lb ?_;refine Z3 ?_;refine wT h ?_;exact⟨rfl,rfl⟩
theorem c0y(q:FuncId)(cap:Lv)(pr:Fo->Bool)(a:Oa)(k c:Nat)(l:List Fo)(h:Lr)(m:View)(hq:∀x∈l,CT prog q ([foV x]++cap) h m (A5 h (.bool (pr x))))(hs:Rd m h a k c 6 (fl foE l)) :
 CT prog 304 [.slice a k c,.func (.func q) #[] cap.toArray] h m (A5 h (.int .i64 (Go.Ty.idxF pr l 0))):=by
 have hl:=hs.lenF a4F (by decide);have hmx:=hs.mx;have hle:=hs.le;refine cB [0,1,4,5,7,8,9,16] func304 λ_=>?_;refine ZZ [1,3,0] ?_;refine lI [0,1,7] (λμ F' h'=>∃j:Nat,(j<=k/\Go.Ty.idxF pr l 0=Go.Ty.idxF pr (l.drop j) j)/\k-j=μ/\F'=[(8,.int .i64 j)]/\h=h') (k-0) [(8,.int .i64 0)] h ⟨0,⟨by omega,rfl⟩,rfl,rfl,rfl⟩ ?_;rintro _ _ _ ⟨j,⟨hk,hJ⟩,rfl,rfl,rfl⟩;refine A9 rfl ?_;refine y4 ?_ ?_<;>intro c9
 obtain⟨x,hx⟩:=A8 (l:=l) (k:=j) (by omega);rw[Go.Ty.idxF_drop pr hx]at hJ;refine ZZ [0,2,5] ?_;refine P6 (Ev.tmp rfl) (E1 (Ev.tmp rfl)) (hq x (qe hx)) Lb ?_;refine y0 ?_ ?_<;>intro c16
 rw[c16]at hJ;refine Z2 ?_;refine wT h ?_;exact⟨by rw[hJ];rfl,rfl⟩;rw[c16]at hJ;refine ZZ [0,2] ?_;exact WL.nil (lN (k-(j+1)) [(8,.int .i64 (j+1))] h ⟨j+1,⟨by omega,by simpa using hJ⟩,rfl,rfl,rfl⟩);rw[qb (by omega)]at hJ;refine ZZ [0,1,0] ?_;refine wT h ?_;exact⟨by rw[hJ];rfl,rfl⟩
theorem c0n(q:FuncId)(cap:Lv)(pr:Fo->Bool)(a:Oa)(k c:Nat)(l:List Fo)(h:Lr)(m:View)(hq:∀x∈l,CT prog q ([foV x]++cap) h m (A5 h (.bool (pr x))))(hs:Rd m h a k c 6 (fl foE l)) :
 CT prog 254 [.slice a k c,.func (.func q) #[] cap.toArray] h m (A5 h (.bool (l.any pr))):=by
 refine cB [0,1,4] func254 λ_=>?_;refine ZZ [1,2] ?_;refine xf (E2 Et Et) (c0y q cap pr _ _ _ l _ _ hq hs) ?_;refine Z2 ?_;refine wT h ?_;exact⟨congrArg Value.bool (Go.Ty.idxF_any pr l 0 (by decide)),rfl⟩
theorem b7e(q0:FuncId)(c0:Lv)(b:Nat)(x:Fo)(v:Bool)(h:Lr)(m:View)(hb:Res.pt b (.cells [.func (.func q0) #[] c0.toArray].toArray 182 (0,0))∈h)(hq:∀h',h.Sublist h'->CT prog q0 ([foV x]++c0) h' m (A5 h' (.bool v))) :
 CT prog 255 [foV x,.pointer (some ⟨b,0,none⟩)] h m (A5 h (.bool (!v))):=by
 refine cB [1,2,3] func255 λ_=>?_;refine xX λb2=>?_
 refine Z1 ?_;refine xG (C8 c6R rfl Et (qD _ hb) rfl) ?_;refine kA1 ?_;refine P6 (Ev.tmp rfl) (E1 (Ev.tmp rfl)) (hq _ Sb) Lb ?_;refine Z2 ?_;refine wT h ?_;exact⟨rfl,rfl⟩
theorem b8I(q0:FuncId)(c0:Lv)(pr:Fo->Bool)(lo hi:Int)(a:Oa)(k c:Nat)(l:List Fo)(h:Lr)(m:View)(hq:∀x∈l,∀h',h.Sublist h'->CT prog q0 ([foV x]++c0) h' m (A5 h' (.bool (pr x))))(hs:Rd m h a k c 6 (fl foE l)) :
 CT prog 178 [.slice a k c,.agg #[.int .i64 lo,.int .i64 hi],.func (.func q0) #[] c0.toArray] h m (A5 h (.bool (O2 l lo hi pr))):=by
 have hl:=hs.lenF a4F (by decide);subst hl;refine cB [0,4,5,6] func178 λ_=>?_;refine xX λb4=>?_
 refine xX λb5=>?_;refine ZZ [1,3] ?_;refine xf (E2 Et Et) (a7D lo hi l.length _ _) ?_;refine kA2 ?_;refine zG (λ_=>PO.makeFunc Evs.nil (E1 Et)) ?_;refine A3 (GU.t rfl rfl) (λhc=>⟨Ef,(E2 (Eg hc) (Eg hc)),c0n 255 [.pointer (some ⟨b5,0,none⟩)] (λx=>!pr x) _ _ _ l _ _ (λx hx=>b7e q0 c0 b5 x (pr x) _ _ Me (λh' hh=>hq x hx h' (qX Sb hh))) (hs.mono Vl Sb)⟩) Lb ?_;refine Z3 ?_;refine wT h ?_;exact⟨rfl,rfl⟩
theorem c1X(q:FuncId)(cap:Lv)(pr:B->Bool)(a:Oa)(k c:Nat)(l:List B)(h:Lr)(m:View)(hq:∀x∈l,CT prog q ([str x]++cap) h m (A5 h (.bool (pr x))))(hs:Rd m h a k c 1 (fl encB l)) :
 CT prog 305 [.slice a k c,.func (.func q) #[] cap.toArray] h m (A5 h (.int .i64 (Go.Ty.idxF pr l 0))):=by
 have hl:=hs.lenF C0 (by decide);have hmx:=hs.mx;have hle:=hs.le;refine cB [0,1,4,5,7,8,9,16] func305 λ_=>?_;refine ZZ [1,3,0] ?_;refine lI [0,1,7] (λμ F' h'=>∃j:Nat,(j<=k/\Go.Ty.idxF pr l 0=Go.Ty.idxF pr (l.drop j) j)/\k-j=μ/\F'=[(8,.int .i64 j)]/\h=h') (k-0) [(8,.int .i64 0)] h ⟨0,⟨by omega,rfl⟩,rfl,rfl,rfl⟩ ?_;rintro _ _ _ ⟨j,⟨hk,hJ⟩,rfl,rfl,rfl⟩;refine A9 rfl ?_;refine y4 ?_ ?_<;>intro c9
 obtain⟨x,hx⟩:=A8 (l:=l) (k:=j) (by omega);rw[Go.Ty.idxF_drop pr hx]at hJ;refine ZZ [0,2,5] ?_;refine P6 (Ev.tmp rfl) (E1 (Ev.tmp rfl)) (hq x (qe hx)) Lb ?_;refine y0 ?_ ?_<;>intro c16
 rw[c16]at hJ;refine Z2 ?_;refine wT h ?_;exact⟨by rw[hJ];rfl,rfl⟩;rw[c16]at hJ;refine ZZ [0,2] ?_;exact WL.nil (lN (k-(j+1)) [(8,.int .i64 (j+1))] h ⟨j+1,⟨by omega,by simpa using hJ⟩,rfl,rfl,rfl⟩);rw[qb (by omega)]at hJ;refine ZZ [0,1,0] ?_;refine wT h ?_;exact⟨by rw[hJ];rfl,rfl⟩
theorem c0Q(q:FuncId)(cap:Lv)(pr:B->Bool)(a:Oa)(k c:Nat)(l:List B)(h:Lr)(m:View)(hq:∀x∈l,CT prog q ([str x]++cap) h m (A5 h (.bool (pr x))))(hs:Rd m h a k c 1 (fl encB l)) :
 CT prog 256 [.slice a k c,.func (.func q) #[] cap.toArray] h m (A5 h (.bool (l.any pr))):=by
 refine cB [0,1,4] func256 λ_=>?_;refine ZZ [1,2] ?_;refine xf (E2 Et Et) (c1X q cap pr _ _ _ l _ _ hq hs) ?_;refine Z2 ?_;refine wT h ?_;exact⟨congrArg Value.bool (Go.Ty.idxF_any pr l 0 (by decide)),rfl⟩
theorem b5W(q0:FuncId)(c0:Lv)(b:Nat)(x:B)(v:Bool)(h:Lr)(m:View)(hb:Res.pt b (.cells [.func (.func q0) #[] c0.toArray].toArray 74 (0,0))∈h)(hq:∀h',h.Sublist h'->CT prog q0 ([str x]++c0) h' m (A5 h' (.bool v))) :
 CT prog 257 [str x,.pointer (some ⟨b,0,none⟩)] h m (A5 h (.bool (!v))):=by
 refine cB [0,1,3] func257 λ_=>?_;refine Z1 ?_;refine xG (C8 c9Z rfl Et hb rfl) ?_;refine kA1 ?_;refine P6 (Ev.tmp rfl) (E1 (Ev.tmp rfl)) (hq _ Sb) Lb ?_;refine Z2 ?_;refine wT h ?_;exact⟨rfl,rfl⟩
theorem b9S(q0:FuncId)(c0:Lv)(pr:B->Bool)(lo hi:Int)(a:Oa)(k c:Nat)(l:List B)(h:Lr)(m:View)(hq:∀x∈l,∀h',h.Sublist h'->CT prog q0 ([str x]++c0) h' m (A5 h' (.bool (pr x))))(hs:Rd m h a k c 1 (fl encB l)) :
 CT prog 179 [.slice a k c,.agg #[.int .i64 lo,.int .i64 hi],.func (.func q0) #[] c0.toArray] h m (A5 h (.bool (O2 l lo hi pr))):=by
 have hl:=hs.lenF C0 (by decide);subst hl;refine cB [0,4,5,6] func179 λ_=>?_;refine xX λb4=>?_
 refine xX λb5=>?_;refine ZZ [1,3] ?_;refine xf (E2 Et Et) (a7D lo hi l.length _ _) ?_;refine kA2 ?_;refine zG (λ_=>PO.makeFunc Evs.nil (E1 Et)) ?_;refine A3 (GU.t rfl rfl) (λhc=>⟨Ef,(E2 (Eg hc) (Eg hc)),c0Q 257 [.pointer (some ⟨b5,0,none⟩)] (λx=>!pr x) _ _ _ l _ _ (λx hx=>b5W q0 c0 b5 x (pr x) _ _ Me (λh' hh=>hq x hx h' (qX Sb hh))) (hs.mono Vl Sb)⟩) Lb ?_;refine Z3 ?_;refine wT h ?_;exact⟨rfl,rfl⟩
theorem a2u(u a z:Bool)(h:Lr)(m:View):CT prog 154 [.bool u,.bool a,.bool z] h m (A5 h (.bool (a5C u a z))):=by
 refine cB [0,1,2,6,7] func154 λ_=>?_;refine ZZ [1,1,0] ?_;refine wc ?_ ?_<;>intro c7
 refine Z2 ?_;refine wT h ?_;exact⟨by rw[c7];rfl,rfl⟩;refine ZZ [0,2,0] ?_;refine wT h ?_;exact⟨by rw[c7];rfl,rfl⟩
theorem a9Q(m:View)(h:Lr):TOk m h A0:=.mk (Rd.nilF exE 6 m h) (λ_ hx=>by cases hx)
theorem a3g{m:View}{h:Lr}(e:Ex)(hT:TOk m h e):CT prog 157 [exV e] h m (A5 h (.bool (a0P e))):=by
 refine cB [1,2] func157 λ_=>?_;refine xX λb1=>?_
 refine ZZ [1,2] ?_;refine xf (E2 Et Et) (b7R e A0 _ _ (hT.mono Sb) (a9Q _ _)) ?_;refine Z1 ?_;refine wT h ?_;exact⟨rfl,rfl⟩
theorem a5V{m:View}{h:Lr}(hg:Glob m)(e:Ex)(hE:EOk m h e):CT prog 156 [exV e] h m (A5 h (.bool (L5 e))):=by
 have hT:=hE.t;have hW:=hE.w;refine cB [1,2] func156 λ_=>?_;refine xX λb1=>?_
 refine ZZ [1,9] ?_;refine zG (λ_=>pA P7) ?_;refine A3 (GU.t rfl rfl) (λhc=>⟨Ef,(E1 (Eg hc)),may_ct hg e _ (hT.mono Sb) hW⟩) Lb ?_;refine Z2 ?_;refine wT h ?_;exact⟨rfl,rfl⟩
theorem a6O(t:Ty)(h:Lr)(m:View)(hg:Glob m)(hs:t.proto.length<=9223372036854775807):CT prog 177 [tyV t] h m (A5 h (.bool (N4 t))):=by
 refine cB [1,2] func177 λ_=>?_;refine xX λb1=>?_
 refine ZZ [1,1] ?_;refine xf (E1 Et) (Ty9.may_ct t _ _ hg hs) ?_;refine Z11 ?_;refine wT h ?_;exact⟨rfl,rfl⟩
theorem c8K{m:View}{h:Lr}(hg:Glob m)(r:Rp)(hn:r.name.length<=Big)(hb:EOk m h r.base)(hcn:EOk m h r.count):CT prog 149 [rpV r] h m (A5 h (.bool (a7n r))):=by
 have hn2:r.name.length<=9223372036854775807:=qr hn (by decide);refine cB [1,2,5] func149 λ_=>?_;refine xX λb1=>?_
 refine ZZ [1,2] ?_;refine xG (H0 Et Ek) ?_;refine y0 ?_ ?_<;>intro c5
 have hR:a7n r=(a0P r.base&&a0P r.count):=by unfold a7n;rw[if_pos c5]
 refine kA2 ?_;refine xf (E1 Et) (a3g r.base (hb.t.mono Sb)) ?_;refine kA3 ?_;refine A3 (GU.t rfl rfl) (λhc=>⟨Ef,(E1 (Eg hc)),a3g r.count (hcn.t.mono Sb)⟩) Lb ?_;refine Z2 ?_;refine wT h ?_;exact⟨by rw[hR],rfl⟩;have hR:a7n r=(Go.Lx.name r.name&&K0 r.base&&K0 r.count):=by unfold a7n;rw[if_neg (by rw[c5];decide)]
 refine ZZ [0,2] ?_;refine xf (E1 Et) (a0S r.name _ _ hg hn2) ?_;refine kA3 ?_;refine A3 (GU.t rfl rfl) (λhc=>⟨Ef,(E1 (Eg hc)),may_ct hg r.base _ (hb.t.mono Sb) hb.w⟩) Lb ?_;refine kA4 ?_;refine A3 (GU.t rfl rfl) (λhc=>⟨Ef,(E1 (Eg hc)),may_ct hg r.count _ (hcn.t.mono Sb) hcn.w⟩) Lb ?_;refine Z2 ?_;refine wT h ?_;exact⟨by rw[hR],rfl⟩
theorem c1B{m:View}{h:Lr}(hg:Glob m)(f:Fo)(hw:FoW f):CT prog 173 [foV f] h m (A5 h (.bool (foP f))):=by
 have hn2:f.name.length<=9223372036854775807:=qr hw.n (by decide);have hp2:f.ty.proto.length<=9223372036854775807:=qr hw.t.p (by decide);refine cB [1,2] func173 λ_=>?_;refine xX λb1=>?_
 refine ZZ [1,2] ?_;refine xf (E1 Et) (a0S f.name _ _ hg hn2) ?_;refine kA3 ?_;refine A3 (GU.t rfl rfl) (λhc=>⟨Ef,(E1 (Eg hc)),Ty9.may_ct f.ty _ _ hg hp2⟩) Lb ?_;refine kA8 ?_;refine A3 (a4M rfl rfl) (λhc=>⟨Ef,(E1 (Eg hc)),a6O f.ty _ _ hg hp2⟩) Lb ?_;refine zG (λhc=>a2T hc rfl rfl) ?_;refine Z2 ?_;refine wT h ?_;exact⟨rfl,rfl⟩
theorem c5X(v:Int)(a:Oa)(k c:Nat)(l:List Int)(h:Lr)(m:View)(hs:Rd m h a k c 1 (fl H3 l)) :
 CT prog 285 [.slice a k c,.int .u8 v] h m (A5 h (.int .i64 (Go.Ty.idxF (v==·) l 0))):=by
 have hl:=hs.lenF E5 (by decide);have hmx:=hs.mx;have hle:=hs.le;refine cB [0,1,4,5,7,8,9,16] func285 λ_=>?_;refine ZZ [1,3,0] ?_;refine lI [0,1,7] (λμ F' h'=>∃j:Nat,(j<=k/\Go.Ty.idxF (v==·) l 0=Go.Ty.idxF (v==·) (l.drop j) j)/\k-j=μ/\F'=[(8,.int .i64 j)]/\h=h') (k-0) [(8,.int .i64 0)] h ⟨0,⟨by omega,rfl⟩,rfl,rfl,rfl⟩ ?_;rintro _ _ _ ⟨j,⟨hk,hJ⟩,rfl,rfl,rfl⟩;refine A9 rfl ?_;refine y4 ?_ ?_<;>intro c9
 obtain⟨x,hx⟩:=A8 (l:=l) (k:=j) (by omega);rw[Go.Ty.idxF_drop _ hx]at hJ;refine ZZ [0,2,6,0] ?_;refine wc ?_ ?_<;>intro c16
 replace c16:(v==x)=true:=c16;rw[c16]at hJ;refine Z2 ?_;refine wT h ?_;exact⟨by rw[hJ];rfl,rfl⟩;replace c16:(v==x)=false:=c16;rw[c16]at hJ;refine ZZ [0,2] ?_;exact WL.nil (lN (k-(j+1)) [(8,.int .i64 (j+1))] h ⟨j+1,⟨by omega,by simpa using hJ⟩,rfl,rfl,rfl⟩);rw[qb (by omega)]at hJ;refine ZZ [0,1,0] ?_;refine wT h ?_;exact⟨by rw[hJ];rfl,rfl⟩
theorem c4Z(v:Int)(a:Oa)(k c:Nat)(l:List Int)(h:Lr)(m:View)(hs:Rd m h a k c 1 (fl H3 l)) :
 CT prog 226 [.slice a k c,.int .u8 v] h m (A5 h (.bool (l.any (v==·)))):=by
 refine cB [0,1,4] func226 λ_=>?_;refine ZZ [1,2] ?_;refine xf (E2 Et Et) (c5X v _ _ _ l _ _ hs) ?_;refine Z2 ?_;refine wT h ?_;exact⟨congrArg Value.bool (Go.Ty.idxF_any _ l 0 (by decide)),rfl⟩
theorem a7t{m:View}{h:Lr}(b1:Nat)(g:Gu)(hb1:Res.pt b1 (.cells (guE g).toArray 93 (0,0))∈h)(a:Oa)(k c:Nat)(l:List Int)(hs:Rd m h a k c 1 (fl H3 l)) :
 CT prog 225 [.slice a k c,.pointer (some ⟨b1,0,none⟩)] h m (A5 h (.bool (l.any (g.k==·)))):=by
 refine cB [0,1,3] func225 λ_=>?_;refine ZZ [1,2] ?_;refine xG (C8 c6a rfl Et hb1 rfl) ?_;refine xf (E2 Et Et) (c4Z g.k _ _ _ l _ _ hs) ?_;refine Z1 ?_;refine wT h ?_;exact⟨rfl,rfl⟩
theorem d0q(k:Int):([1,2,3,4]:List Int).any (k==·)=((k==1)||(k==2)||(k==3)||(k==4)):=by simp[Bool.or_assoc]
theorem c9V(k:Int):([3,4]:List Int).any (k==·)=((k==3)||(k==4)):=by simp
theorem c90(k q:Int):([q]:List Int).any (k==·)=(k==q):=by simp
theorem c07{m:View}{h:Lr}(hg:Glob m)(g:Gu)(hO:GOk m h g):CT prog 151 [guV g] h m (A5 h (.bool (guP g))):=by
 have hn2:g.name.length<=9223372036854775807:=qr hO.n (by decide);have htr:=hO.tg.rd;have hvr:=hO.vl.rd;refine cB [1,2,3,4,5,6,22,23,26] func151 λ_=>?_;refine xX λb1=>?_
 refine Z1 ?_;refine xG (PO.makeFunc Evs.nil (E1 Et)) ?_;refine ZZ [1,2] ?_;refine xf (E1 Et) (may_ct hg g.cond _ (hO.cond.t.mono Sb) hO.cond.w) ?_;refine ZZ [1,1] ?_;refine xY b1C Eb λb12=>?_;refine P6 (Ev.tmp rfl) (E1 (Ev.tmp rfl)) (CT.val (a7t b1 g Me _ _ _ [3,4] (Rd.ofPt rfl Lb Me)) (congrArg Value.bool (c9V g.k))) Lb ?_;refine kP0 [1,3,4,13] ?_;refine D6 KKh [1,3] rfl (λF' h'=>∃cb:Bool,(cb=b06 g)/\F'=[(4,.bool cb)]/\.pt b1 (.cells (guE g).toArray 93 (0,0))::h=h') ?_ ?_;refine jE ?_;refine wc ?_ ?_<;>intro c13
 refine kA4 ?_;refine A3 (GU.f rfl rfl) (λhc=>⟨Ef,(E1 (Eg hc)),a3g g.cond (hO.cond.t.mono Sb)⟩) Lb ?_;refine kA2 ?_;exact WL.nil (mN [(4,.bool (K0 g.cond||a0P g.cond))] (.pt b1 (.cells (guE g).toArray 93 (0,0))::h) ⟨K0 g.cond||a0P g.cond,by unfold b06;rw[if_pos c13],rfl,rfl⟩);exact WC.skip (mN [(4,.bool (K0 g.cond))] (.pt b1 (.cells (guE g).toArray 93 (0,0))::h) ⟨K0 g.cond,by unfold b06;rw[if_neg (by rw[c13];decide)],rfl,rfl⟩);rintro _ _ ⟨cb,hcb,rfl,rfl⟩;refine A9 rfl ?_;refine kA1 ?_;refine xW λb5=>?_;refine Z1 ?_;refine kP2 [1,3,4,5,22] ?_;refine D6 KKh [1,3,4,5] rfl (λF' h'=>∃lo:Int,∃hi:Int,(lo=(if g.k=3 then 1 else 0)/\hi=(if g.k=3 then 8 else if g.k=7 then 8 else 0))/\F'=[]/\.pt b5 (.cells [.int .i64 lo,.int .i64 hi].toArray 172 (0,0))::.pt b1 (.cells (guE g).toArray 93 (0,0))::h=h') ?_ ?_;refine y3 ?_ ?_<;>intro c23
 refine j0 ?_;refine xG (I8 (vs:=a8s) W5 rfl rfl Ev.global rfl (λj v hj=>by rw[qI];exact hg.sSome j v hj)) ?_;refine kA1 ?_;exact WL.nil (mN [] (.pt b5 (.cells [.int .i64 1,.int .i64 8].toArray 172 (0,0))::.pt b1 (.cells (guE g).toArray 93 (0,0))::h) ⟨1,8,⟨by rw[if_pos c23],by rw[if_pos c23]⟩,rfl,rfl⟩);refine y3 ?_ ?_<;>intro c26
 refine kA2 ?_;exact WL.nil (mN [] (.pt b5 (.cells [.int .i64 0,.int .i64 8].toArray 172 (0,0))::.pt b1 (.cells (guE g).toArray 93 (0,0))::h) ⟨0,8,⟨by rw[if_neg c23],by rw[if_neg c23,if_pos c26]⟩,rfl,rfl⟩);exact WC.skip (mN [] (.pt b5 (.cells [.int .i64 0,.int .i64 0].toArray 172 (0,0))::.pt b1 (.cells (guE g).toArray 93 (0,0))::h) ⟨0,0,⟨by rw[if_neg c23],by rw[if_neg c23,if_neg c26]⟩,rfl,rfl⟩);rintro _ _ ⟨lo,hi,⟨hlo,hhi⟩,rfl,rfl⟩;refine A9 rfl ?_;refine kA1 ?_;refine xW λb6=>?_;refine Z1 ?_;refine kP3 [1,3,4,5,6,32] ?_;refine D6 KKh [1,3,4,5,6] rfl (λF' h'=>∃lo2:Int,∃hi2:Int,(lo2=(if g.k=5 then 1 else 0)/\hi2=(if g.k=5 then 8 else 0))/\F'=[]/\.pt b6 (.cells [.int .i64 lo2,.int .i64 hi2].toArray 172 (0,0))::.pt b5 (.cells [.int .i64 lo,.int .i64 hi].toArray 172 (0,0))::.pt b1 (.cells (guE g).toArray 93 (0,0))::h=h') ?_ ?_;refine jE ?_;refine wE ?_ ?_<;>intro c32
 refine j0 ?_;refine xG (I8 (vs:=a8s) W5 rfl rfl Ev.global rfl (λj v hj=>by rw[qI];exact hg.sSome j v hj)) ?_;refine kA1 ?_;exact WL.nil (mN [] (.pt b6 (.cells [.int .i64 1,.int .i64 8].toArray 172 (0,0))::.pt b5 (.cells [.int .i64 lo,.int .i64 hi].toArray 172 (0,0))::.pt b1 (.cells (guE g).toArray 93 (0,0))::h) ⟨1,8,⟨by rw[if_pos c32],by rw[if_pos c32]⟩,rfl,rfl⟩);exact WC.skip (mN [] (.pt b6 (.cells [.int .i64 0,.int .i64 0].toArray 172 (0,0))::.pt b5 (.cells [.int .i64 lo,.int .i64 hi].toArray 172 (0,0))::.pt b1 (.cells (guE g).toArray 93 (0,0))::h) ⟨0,0,⟨by rw[if_neg c32],by rw[if_neg c32]⟩,rfl,rfl⟩);rintro _ _ ⟨lo2,hi2,⟨hlo2,hhi2⟩,rfl,rfl⟩;refine A9 rfl ?_;refine jE ?_
 refine dS [16,17,21,22,26,27,30,34,38,39,42,45,46,50,51,54,57,58,64] (.op 0 (.op 1 (.op 2 (.op 3 (.op 4 (.op 5 (.op 6 (.op 7 (.op 8 (.op 9 (.op 10 (.op 11 (.op 12 (.op 13 (.op 14 (.op 15 (.op 18 (.op 19 (.op 20 (.op 16 (.op 17 (.op 21 (.op 22 (.op 23 (.op 24 (.op 25 (.op 28 (.op 29 (.op 31 (.op 32 (.op 33 (.op 26 (.op 27 (.op 30 (.op 34 (.op 35 (.op 36 (.op 37 (.op 40 (.op 41 (.op 43 (.op 44 (.op 38 (.op 39 (.op 42 (.op 45 (.op 46 (.op 47 (.op 48 (.op 49 (.op 52 (.op 53 (.op 55 (.op 56 (.op 50 (.op 51 (.op 54 (.op 57 (.op 58 (.op 59 (.op 60 (.op 61 (.op 62 (.op 63 (.op 64 (.op 65 (.op 66 (.op 67 (.op 68 (.op 69 .nil)))))))))))))))))))))))))))))))))))))))))))))))))))))))))))))))))))))) [70,71,72] C9 ?_;refine kA2 ?_;refine yG rfl (O4 Et Ek rfl) ?_;refine kA3 ?_;refine B2 rfl rfl (GU.t rfl rfl) (λhc=>O4 (Eg hc) Ek rfl) Lb ?_;refine kA4 ?_
 refine B2 rfl rfl (GU.t rfl rfl) (λhc=>R8 c2b (Eg hc)) Lb ?_;refine B2 rfl rfl (GU.t rfl rfl) (λhc=>O4 (Eg hc) Ek rfl) Lb ?_;refine kA2 ?_;refine B2 rfl rfl (GU.t rfl rfl) (λhc=>PO.move Et) Lb ?_;refine B2 rfl rfl (GU.t rfl rfl) (λhc=>PO.move Et) Lb ?_;refine kA2 ?_;refine a1a rfl rfl (GU.t rfl rfl) b1C rfl (λhc=>(EvP.cons Ek (EvP.cons Ek (EvP.cons Ek (EvP.cons Ek EvP.nil))))) rfl rfl (by decide) rfl Lb λb50 r50 hr50=>?_;refine H8 rfl rfl (GU.t rfl rfl) (λhc=>⟨(a04 rfl hc),(E1 (a04 rfl hc)),λfr=>CT.val (a7t b1 g (qE _ Me) _ _ _ [1,2,3,4] (Rd.ofPt rfl Lb (by rw[hr50 hc];exact qE _ (qm _)))) (congrArg Value.bool (d0q g.k))⟩) Lb ?_;refine H8 rfl rfl (GU.t rfl rfl) (λhc=>⟨Ef,(E1 (Eg hc)),λfr=>a3g g.cond (hO.cond.t.mono Sb)⟩) Lb ?_;refine H8 rfl rfl (GU.t rfl rfl) (λhc=>⟨Ef,(E3 (Eg hc) (Eg hc) (Eg hc)),λfr=>a2u _ _ _ _ _⟩) Lb ?_;refine kA2 ?_;refine B2 rfl rfl (GU.t rfl rfl) (λhc=>PO.move Et) Lb ?_;refine kA4 ?_;refine B2 rfl rfl (GU.t rfl rfl) (λhc=>H0 (Eg hc) Ek) Lb ?_;refine a1a rfl rfl (GU.t rfl rfl) b1C rfl (λhc=>(EvP.cons Ek EvP.nil)) rfl rfl (by decide) rfl Lb λb60 r60 hr60=>?_
 refine H8 rfl rfl (GU.t rfl rfl) (λhc=>⟨(a04 rfl hc),(E1 (a04 rfl hc)),λfr=>CT.val (a7t b1 g (qE _ Me) _ _ _ [7] (Rd.ofPt rfl Lb (by rw[hr60 hc];exact qE _ (qm _)))) (congrArg Value.bool (c90 g.k 7))⟩) Lb ?_;refine H8 rfl rfl (GU.t rfl rfl) (λhc=>⟨Ef,(E1 (Eg hc)),λfr=>a0S g.name _ _ hg hn2⟩) Lb ?_;refine H8 rfl rfl (GU.t rfl rfl) (λhc=>⟨Ef,(E3 (Eg hc) (Eg hc) (Eg hc)),λfr=>a2u _ _ _ _ _⟩) Lb ?_;refine kA2 ?_;refine B2 rfl rfl (GU.t rfl rfl) (λhc=>PO.move Et) Lb ?_;refine kA4 ?_;refine a1a rfl rfl (GU.t rfl rfl) b1C rfl (λhc=>(EvP.cons Ek (EvP.cons Ek EvP.nil))) rfl rfl (by decide) rfl Lb λb72 r72 hr72=>?_;refine H8 rfl rfl (GU.t rfl rfl) (λhc=>⟨(a04 rfl hc),(E1 (a04 rfl hc)),λfr=>CT.val (a7t b1 g (qE _ Me) _ _ _ [3,4] (Rd.ofPt rfl Lb (by rw[hr72 hc];exact qE _ (qm _)))) (congrArg Value.bool (c9V g.k))⟩) Lb ?_;refine H8 rfl rfl (GU.t rfl rfl) (λhc=>⟨Ef,(E1 (Eg hc)),λfr=>a5V hg g.ch (hO.ch.mono Sb)⟩) Lb ?_;refine H8 rfl rfl (GU.t rfl rfl) (λhc=>⟨Ef,(E1 (Eg hc)),λfr=>a3g g.ch (hO.ch.t.mono Sb)⟩) Lb ?_;refine H8 rfl rfl (GU.t rfl rfl) (λhc=>⟨Ef,(E3 (Eg hc) (Eg hc) (Eg hc)),λfr=>a2u _ _ _ _ _⟩) Lb ?_;refine kA2 ?_;refine B2 rfl rfl (GU.t rfl rfl) (λhc=>PO.move Et) Lb ?_;refine kA4 ?_;refine a1a rfl rfl (GU.t rfl rfl) b1C rfl (λhc=>(EvP.cons Ek EvP.nil)) rfl rfl (by decide) rfl Lb λb84 r84 hr84=>?_
 refine H8 rfl rfl (GU.t rfl rfl) (λhc=>⟨(a04 rfl hc),(E1 (a04 rfl hc)),λfr=>CT.val (a7t b1 g (qE _ Me) _ _ _ [4] (Rd.ofPt rfl Lb (by rw[hr84 hc];exact qE _ (qm _)))) (congrArg Value.bool (c90 g.k 4))⟩) Lb ?_;refine H8 rfl rfl (GU.t rfl rfl) (λhc=>⟨Ef,(E1 (Eg hc)),λfr=>may_ct hg g.time _ (hO.time.t.mono Sb) hO.time.w⟩) Lb ?_;refine H8 rfl rfl (GU.t rfl rfl) (λhc=>⟨Ef,(E1 (Eg hc)),λfr=>a3g g.time (hO.time.t.mono Sb)⟩) Lb ?_;refine H8 rfl rfl (GU.t rfl rfl) (λhc=>⟨Ef,(E3 (Eg hc) (Eg hc) (Eg hc)),λfr=>a2u _ _ _ _ _⟩) Lb ?_;refine kA4 ?_;refine B2 rfl rfl (GU.t rfl rfl) (λhc=>a0n W5 rfl rfl Et Me rfl) Lb ?_
 refine H8 rfl rfl (GU.t rfl rfl) (λhc=>⟨Ef,(E3 (Eg hc) (Eg hc) Ef),λfr=>a5H 156 [] L5 lo hi _ _ _ g.tg.l _ _ (λx hx h' hh=>a5V hg x ((hO.tg.ok x hx).mono (qX Sb hh))) (htr.mono Vl Sb)⟩) Lb ?_;refine kA4 ?_;refine B2 rfl rfl (GU.t rfl rfl) (λhc=>a0n W5 rfl rfl Et Me rfl) Lb ?_;refine nS ?_;refine A3 (GU.t rfl rfl) (λhc=>⟨Ef,(E3 (Eg hc) (Eg hc) Ef),a5H 159 [] K0 lo2 hi2 _ _ _ g.vl.l _ _ (λx hx h' hh=>may_ct hg x _ ((hO.vl.ok x hx).t.mono (qX Sb hh)) (hO.vl.ok x hx).w) (hvr.mono Vl Sb)⟩) Lb ?_;refine Z2 ?_;refine wT h ?_;exact⟨by unfold guP;rw[<-hcb,<-hlo,<-hhi,<-hlo2,<-hhi2],rfl⟩
end
section
open Go.Eng Go.Pc Go
open Go.Xp hiding B E8
open Go.Ty (Ty Vr eqT tyV E9 PrOk VOk prL encV D8 H3 E5 eqI a2S a3a b2m)
open Go.Lx (encB C0)
theorem b9G{m:View}{h:Lr}(hg:Glob m)(k:Int):CT prog 148 [.int .u8 k] h m (A5 h (.tuple #[.agg (usE (C4 k).1).toArray,.bool (C4 k).2])):=by
 refine cB [0,2,3,4,9,14,18,22,26,35,39,48,52,57,62,66] func148 λ_=>?_;refine xW λb2=>?_
 refine ZZ [1,1,0] ?_;refine kP2 [2,4,5] ?_;refine D6 KKh [2,4] rfl (λF' h'=>∃q1:Bool,(q1=true↔(k=1\/k=2))/\F'=[(5,.bool q1)]/\.pt b2 (.cells (usE us0).toArray 203 (0,0))::h=h') ?_ ?_;refine jE ?_;refine wc ?_ ?_<;>intro c5
 have ca:(k==1)=true:=c5;exact WC.skip (mN [(5,.bool ((k==1)))] (.pt b2 (.cells (usE us0).toArray 203 (0,0))::h) ⟨(k==1),⟨λ_=>.inl (by simpa using ca),λ_=>ca⟩,rfl,rfl⟩);have ca:(k==1)=false:=c5;refine kA2 ?_;exact WL.nil (mN [(5,.bool ((k==2)))] (.pt b2 (.cells (usE us0).toArray 203 (0,0))::h) ⟨(k==2),⟨λhk=>.inr (by simpa using hk),λhk=>hk.elim (λh1=>absurd h1 (by simpa using ca)) (λh1=>by simpa using h1)⟩,rfl,rfl⟩);rintro _ _ ⟨q1,hb1,rfl,rfl⟩;refine A9 rfl ?_;refine jE ?_;refine wc ?_ ?_<;>intro c5
 have hk:=hb1.1 c5;refine Z3 ?_;refine w2 h (h1:=cA a0e) ?_;exact⟨by rcases hk with hk|hk<;>(rw[hk];rfl),rfl⟩;have hk12:¬(k=1\/k=2):=λq=>by rw[hb1.2 q]at c5;cases c5
 refine y3 ?_ ?_<;>intro c9
 refine j0 ?_;refine xG (I8 (vs:=a8s) W5 rfl rfl Ev.global rfl (λj v hj=>by rw[qI];exact hg.sSome j v hj)) ?_;refine xG (I8 (vs:=a8s) W5 rfl rfl Ev.global rfl (λj v hj=>by rw[qI];exact hg.sSome j v hj)) ?_;refine Z3 ?_;refine w2 h (h1:=cA a0e) ?_;exact⟨by rw[c9];rfl,rfl⟩;refine y3 ?_ ?_<;>intro c14
 refine j0 ?_;refine xG (I8 (vs:=a8s) W5 rfl rfl Ev.global rfl (λj v hj=>by rw[qI];exact hg.sSome j v hj)) ?_;refine Z3 ?_;refine w2 h (h1:=cA a0e) ?_;exact⟨by rw[c14];rfl,rfl⟩;refine y3 ?_ ?_<;>intro c18
 refine Z4 ?_;refine w2 h (h1:=cA a0e) ?_;exact⟨by rw[c18];rfl,rfl⟩;refine y3 ?_ ?_<;>intro c22
 refine j0 ?_;refine xG (I8 (vs:=a9f) W5 rfl rfl Ev.global rfl (λj v hj=>by rw[qI];exact hg.sOne j v hj)) ?_;refine Z3 ?_;refine w2 h (h1:=cA a0e) ?_;exact⟨by rw[c22];rfl,rfl⟩;refine y3 ?_ ?_<;>intro c26
 refine kA1 ?_;refine xG (PO.build a0e rfl rfl rfl Eb (by exact rfl)) ?_;refine Z2 ?_;refine w2 h (h1:=cA a0e) ?_;exact⟨by rw[c26];rfl,rfl⟩;refine kP2 [2,4,30] ?_;refine D6 KKh [2,4] rfl (λF' h'=>∃q2:Bool,(q2=true↔(k=8\/k=9))/\F'=[(30,.bool q2)]/\.pt b2 (.cells (usE us0).toArray 203 (0,0))::h=h') ?_ ?_;refine jE ?_;refine wc ?_ ?_<;>intro c30
 have ca:(k==8)=true:=c30;exact WC.skip (mN [(30,.bool ((k==8)))] (.pt b2 (.cells (usE us0).toArray 203 (0,0))::h) ⟨(k==8),⟨λ_=>.inl (by simpa using ca),λ_=>ca⟩,rfl,rfl⟩);have ca:(k==8)=false:=c30;refine kA2 ?_;exact WL.nil (mN [(30,.bool ((k==9)))] (.pt b2 (.cells (usE us0).toArray 203 (0,0))::h) ⟨(k==9),⟨λhk=>.inr (by simpa using hk),λhk=>hk.elim (λh1=>absurd h1 (by simpa using ca)) (λh1=>by simpa using h1)⟩,rfl,rfl⟩);rintro _ _ ⟨q2,hb2,rfl,rfl⟩;refine A9 rfl ?_;refine jE ?_;refine wc ?_ ?_<;>intro c30
 have hk:=hb2.1 c30;refine j0 ?_;refine xG (I8 (vs:=c4i) W5 rfl rfl Ev.global rfl (λj v hj=>by rw[qI];exact hg.sAll j v hj)) ?_;refine Z3 ?_;refine w2 h (h1:=cA a0e) ?_;exact⟨by rcases hk with hk|hk<;>(rw[hk];rfl),rfl⟩;have hk89:¬(k=8\/k=9):=λq=>by rw[hb2.2 q]at c30;cases c30
 refine y3 ?_ ?_<;>intro c35
 refine Z4 ?_;refine w2 h (h1:=cA a0e) ?_;exact⟨by rw[c35];rfl,rfl⟩;refine y3 ?_ ?_<;>intro c39
 refine Z4 ?_;refine w2 h (h1:=cA a0e) ?_;exact⟨by rw[c39];rfl,rfl⟩;refine kP2 [2,4,43] ?_;refine D6 KKh [2,4] rfl (λF' h'=>∃q3:Bool,(q3=true↔(k=12\/k=13))/\F'=[(43,.bool q3)]/\.pt b2 (.cells (usE us0).toArray 203 (0,0))::h=h') ?_ ?_;refine jE ?_;refine wc ?_ ?_<;>intro c43
 have ca:(k==12)=true:=c43;exact WC.skip (mN [(43,.bool ((k==12)))] (.pt b2 (.cells (usE us0).toArray 203 (0,0))::h) ⟨(k==12),⟨λ_=>.inl (by simpa using ca),λ_=>ca⟩,rfl,rfl⟩);have ca:(k==12)=false:=c43;refine kA2 ?_;exact WL.nil (mN [(43,.bool ((k==13)))] (.pt b2 (.cells (usE us0).toArray 203 (0,0))::h) ⟨(k==13),⟨λhk=>.inr (by simpa using hk),λhk=>hk.elim (λh1=>absurd h1 (by simpa using ca)) (λh1=>by simpa using h1)⟩,rfl,rfl⟩);rintro _ _ ⟨q3,hb3,rfl,rfl⟩;refine A9 rfl ?_;refine jE ?_;refine wc ?_ ?_<;>intro c43
 have hk:=hb3.1 c43;refine kA1 ?_;refine xG (PO.build a0e rfl rfl rfl Eb (by exact rfl)) ?_;refine Z2 ?_;refine w2 h (h1:=cA a0e) ?_;exact⟨by rcases hk with hk|hk<;>(rw[hk];rfl),rfl⟩;have hk1213:¬(k=12\/k=13):=λq=>by rw[hb3.2 q]at c43;cases c43
 refine y3 ?_ ?_<;>intro c48
 refine kA1 ?_;refine xG (PO.build a0e rfl rfl rfl Eb (by exact rfl)) ?_;refine Z2 ?_;refine w2 h (h1:=cA a0e) ?_;exact⟨by rw[c48];rfl,rfl⟩;refine y3 ?_ ?_<;>intro c52
 refine j0 ?_;refine xG (I8 (vs:=a9f) W5 rfl rfl Ev.global rfl (λj v hj=>by rw[qI];exact hg.sOne j v hj)) ?_;refine kA1 ?_;refine xG (PO.build a0e rfl rfl rfl Eb (by exact rfl)) ?_;refine Z2 ?_;refine w2 h (h1:=cA a0e) ?_;exact⟨by rw[c52];rfl,rfl⟩;refine y3 ?_ ?_<;>intro c57
 refine j0 ?_;refine xG (I8 (vs:=a9f) W5 rfl rfl Ev.global rfl (λj v hj=>by rw[qI];exact hg.sOne j v hj)) ?_;refine xG (I8 (vs:=a9f) W5 rfl rfl Ev.global rfl (λj v hj=>by rw[qI];exact hg.sOne j v hj)) ?_;refine Z3 ?_;refine w2 h (h1:=cA a0e) ?_;exact⟨by rw[c57];rfl,rfl⟩;refine y3 ?_ ?_<;>intro c62
 refine Z4 ?_;refine w2 h (h1:=cA a0e) ?_;exact⟨by rw[c62];rfl,rfl⟩;refine y3 ?_ ?_<;>intro c66
 refine j0 ?_;refine xG (I8 (vs:=a9f) W5 rfl rfl Ev.global rfl (λj v hj=>by rw[qI];exact hg.sOne j v hj)) ?_;refine Z3 ?_;refine w2 h (h1:=cA a0e) ?_;exact⟨by rw[c66];rfl,rfl⟩;have hF:C4 k=(us0,false):=by unfold C4;repeat rw[if_neg (by omega)]
 refine ZZ [0,3,0] ?_;refine w2 h (h1:=cA a0e) ?_;exact⟨by rw[hF];rfl,rfl⟩
def eqS(x y:B):Bool:=x==y
theorem c8F{x y:B}(h:(!(x==y))=true):eqS x y=false:=by simpa [eqS]using h
theorem c7V{x y:B}(h:(!(x==y))=false):eqS x y=true:=by simpa [eqS]using h
theorem c5g(x y:B):eqS x y=true↔x=y:=by simp[eqS]
theorem c5T{x y:Fo}(h:(!(a0h x y))=true):a0h x y=false:=by simpa using h
theorem c4l{x y:Fo}(h:(!(a0h x y))=false):a0h x y=true:=by simpa using h
theorem b7A{α:Type}[BEq α][LawfulBEq α]{e:α->α->Bool}(he:∀x y,e x y=true↔x=y)(xs ys:List α):eqL e xs ys=(xs==ys):=by rw[qH,b2v he];simp
theorem b4q(s1 s2:Oa)(n1 c1 n2 c2:Nat)(xs ys:List _)(h:Lr)(m:View)(h1:Rd m h s1 n1 c1 1 (fl H3 xs))(h2:Rd m h s2 n2 c2 1 (fl H3 ys)) :
 CT prog 259 [.slice s1 n1 c1,.slice s2 n2 c2] h m (A5 h (.bool (eqL eqI xs ys))):=by
 have l1:=h1.lenF E5 (by decide);have l2:=h2.lenF E5 (by decide);have m1:=h1.mx;have m2:=h2.mx;have k1:=h1.le;have k2:=h2.le;refine cB [0,1,4,5,10,12,13,14,24] func259 λ_=>?_;refine ZZ [1,5,0] ?_;refine wN ?_ ?_<;>intro c10
 refine Z1 ?_;refine wT h ?_;exact⟨by rw[U5 _ _ _ (by omega)],rfl⟩;refine ZZ [0,3,0] ?_;refine lI [0,1,12] (λμ F' h'=>∃k:Nat,(k<=n1/\eqL eqI xs ys=eqL eqI (xs.drop k) (ys.drop k))/\n1-k=μ/\F'=[(13,.int .i64 k)]/\h=h') (n1-0) [(13,.int .i64 0)] h ⟨0,⟨by omega,by simp⟩,rfl,rfl,rfl⟩ ?_;rintro _ _ _ ⟨k,⟨hk,hJ⟩,rfl,rfl,rfl⟩;refine A9 rfl ?_;refine y4 ?_ ?_<;>intro c14
 obtain⟨x,hx⟩:=A8 (l:=xs) (k:=k) (by omega);obtain⟨y,hy⟩:=A8 (l:=ys) (k:=k) (by omega);rw[Q9 _ hx hy]at hJ;refine ZZ [0,2,0] ?_;refine dS [] (.op 0 (.op 1 (.op 2 (.op 3 (.op 4 (.op 5 (.op 6 (.op 7 .nil)))))))) [8] C9 ?_;refine kA8 ?_;refine nS ?_;refine y1 ?_ ?_<;>intro c24
 refine Z1 ?_;refine wT h ?_;exact⟨by rw[hJ,a2S c24];rfl,rfl⟩;rw[a3a c24,qG]at hJ;refine ZZ [0,2] ?_;exact WL.nil (lN (n1-(k+1)) [(13,.int .i64 (k+1))] h ⟨k+1,⟨by omega,hJ⟩,rfl,rfl,rfl⟩);refine ZZ [0,1,0] ?_;refine wT h ?_;exact⟨by rw[hJ,qb (by omega),qb (by omega)];rfl,rfl⟩
theorem b4v(s1 s2:Oa)(n1 c1 n2 c2:Nat)(xs ys:List _)(h:Lr)(m:View)(h1:Rd m h s1 n1 c1 1 (fl encB xs))(h2:Rd m h s2 n2 c2 1 (fl encB ys)) :
 CT prog 260 [.slice s1 n1 c1,.slice s2 n2 c2] h m (A5 h (.bool (eqL eqS xs ys))):=by
 have l1:=h1.lenF C0 (by decide);have l2:=h2.lenF C0 (by decide);have m1:=h1.mx;have m2:=h2.mx;have k1:=h1.le;have k2:=h2.le;refine cB [0,1,4,5,10,12,13,14,24] func260 λ_=>?_;refine ZZ [1,5,0] ?_;refine wN ?_ ?_<;>intro c10
 refine Z1 ?_;refine wT h ?_;exact⟨by rw[U5 _ _ _ (by omega)],rfl⟩;refine ZZ [0,3,0] ?_;refine lI [0,1,12] (λμ F' h'=>∃k:Nat,(k<=n1/\eqL eqS xs ys=eqL eqS (xs.drop k) (ys.drop k))/\n1-k=μ/\F'=[(13,.int .i64 k)]/\h=h') (n1-0) [(13,.int .i64 0)] h ⟨0,⟨by omega,by simp⟩,rfl,rfl,rfl⟩ ?_;rintro _ _ _ ⟨k,⟨hk,hJ⟩,rfl,rfl,rfl⟩;refine A9 rfl ?_;refine y4 ?_ ?_<;>intro c14
 obtain⟨x,hx⟩:=A8 (l:=xs) (k:=k) (by omega);obtain⟨y,hy⟩:=A8 (l:=ys) (k:=k) (by omega);rw[Q9 _ hx hy]at hJ;refine ZZ [0,2,0] ?_;refine dS [] (.op 0 (.op 1 (.op 2 (.op 3 (.op 4 (.op 5 (.op 6 (.op 7 .nil)))))))) [8] C9 ?_;refine kA8 ?_;refine nS ?_;refine xG (P2 Et Et) ?_;refine y0 ?_ ?_<;>intro c24
 refine Z1 ?_;refine wT h ?_;exact⟨by rw[hJ,c8F c24];rfl,rfl⟩;rw[c7V c24,qG]at hJ;refine ZZ [0,2] ?_;exact WL.nil (lN (n1-(k+1)) [(13,.int .i64 (k+1))] h ⟨k+1,⟨by omega,hJ⟩,rfl,rfl,rfl⟩);refine ZZ [0,1,0] ?_;refine wT h ?_;exact⟨by rw[hJ,qb (by omega),qb (by omega)];rfl,rfl⟩
theorem b5s(s1 s2:Oa)(n1 c1 n2 c2:Nat)(xs ys:List _)(h:Lr)(m:View)(h1:Rd m h s1 n1 c1 6 (fl foE xs))(h2:Rd m h s2 n2 c2 6 (fl foE ys)) :
 CT prog 262 [.slice s1 n1 c1,.slice s2 n2 c2] h m (A5 h (.bool (eqL a0h xs ys))):=by
 have l1:=h1.lenF a4F (by decide);have l2:=h2.lenF a4F (by decide);have m1:=h1.mx;have m2:=h2.mx;have k1:=h1.le;have k2:=h2.le;refine cB [0,1,4,5,10,12,13,14,24] func262 λ_=>?_;refine ZZ [1,5,0] ?_;refine wN ?_ ?_<;>intro c10
 refine Z1 ?_;refine wT h ?_;exact⟨by rw[U5 _ _ _ (by omega)],rfl⟩;refine ZZ [0,3,0] ?_;refine lI [0,1,12] (λμ F' h'=>∃k:Nat,(k<=n1/\eqL a0h xs ys=eqL a0h (xs.drop k) (ys.drop k))/\n1-k=μ/\F'=[(13,.int .i64 k)]/\h=h') (n1-0) [(13,.int .i64 0)] h ⟨0,⟨by omega,by simp⟩,rfl,rfl,rfl⟩ ?_;rintro _ _ _ ⟨k,⟨hk,hJ⟩,rfl,rfl,rfl⟩;refine A9 rfl ?_;refine y4 ?_ ?_<;>intro c14
 obtain⟨x,hx⟩:=A8 (l:=xs) (k:=k) (by omega);obtain⟨y,hy⟩:=A8 (l:=ys) (k:=k) (by omega);rw[Q9 _ hx hy]at hJ;refine ZZ [0,2,0] ?_;refine dS [] (.op 0 (.op 1 (.op 2 (.op 3 (.op 4 (.op 5 (.op 6 (.op 7 .nil)))))))) [8] C9 ?_;refine kA8 ?_;refine nS ?_;refine xG (b4f (o:=37) b9m (by kernel_rfl) (by kernel_rfl) Et Et (by kernel_rfl) rfl) ?_;refine y0 ?_ ?_<;>intro c24
 refine Z1 ?_;refine wT h ?_;exact⟨by rw[hJ,c5T c24];rfl,rfl⟩;rw[c4l c24,qG]at hJ;refine ZZ [0,2] ?_;exact WL.nil (lN (n1-(k+1)) [(13,.int .i64 (k+1))] h ⟨k+1,⟨by omega,hJ⟩,rfl,rfl,rfl⟩);refine ZZ [0,1,0] ?_;refine wT h ?_;exact⟨by rw[hJ,qb (by omega),qb (by omega)];rfl,rfl⟩
theorem c9j{m:View}{h:Lr}(x y:Vr)(hx:VOk m h x)(hy:VOk m h y):CT prog 258 [.agg (encV x).toArray,.agg (encV y).toArray] h m (A5 h (.bool (N7 x y))):=by
 have r1:=hx.rd;have r2:=hy.rd;have hi:=b7A b2m x.items y.items;refine cB [2,3,4] func258 λ_=>?_;refine xX λb2=>?_
 refine xX λb3=>?_;refine ZZ [1,4] ?_;refine xG (H0 Et Et) ?_;refine kA5 ?_;refine A3 (GU.t rfl rfl) (λhc=>⟨Ef,(E2 (Eg hc) (Eg hc)),b4q _ _ _ _ _ _ _ _ _ _ Rr Rr⟩) Lb ?_;refine Z2 ?_;refine wT h ?_;exact⟨by unfold N7;rw[<-hi],rfl⟩
theorem c4V(q:FuncId)(pr:Vr->Vr->Bool)(s1 s2:Oa)(n1 c1 n2 c2:Nat)(xs ys:List Vr)(h:Lr)(m:View)(h1:Rd m h s1 n1 c1 2 (fl encV xs))(h2:Rd m h s2 n2 c2 2 (fl encV ys))
 (hq:∀x∈xs,∀y∈ys,∀h',h.Sublist h'->CT prog q ([]++[.agg (encV x).toArray,.agg (encV y).toArray]++[]) h' m (A5 h' (.bool (pr x y)))) :
 CT prog 261 [.slice s1 n1 c1,.slice s2 n2 c2,.func (.func q) #[] #[]] h m (A5 h (.bool (eqL pr xs ys))):=by
 have l1:=h1.lenF D8 (by decide);have l2:=h2.lenF D8 (by decide);have m1:=h1.mx;have m2:=h2.mx;have k1:=h1.le;have k2:=h2.le;refine cB [0,1,2,6,7,8,9,14,15,16,17,18,30] func261 λ_=>?_;refine ZZ [1,5,0] ?_;refine wN ?_ ?_<;>intro c14
 refine Z1 ?_;refine wT h ?_;exact⟨by rw[U5 _ _ _ (by omega)],rfl⟩;refine ZZ [0,3,0] ?_;refine lI [1,2,15,16] (λμ F' h'=>∃k:Nat,(k<=n1/\eqL pr xs ys=eqL pr (xs.drop k) (ys.drop k))/\n1-k=μ/\F'=[(17,.int .i64 k)]/\h=h') (n1-0) [(17,.int .i64 0)] h ⟨0,⟨by omega,by simp⟩,rfl,rfl,rfl⟩ ?_;rintro _ _ _ ⟨k,⟨hk,hJ⟩,rfl,rfl,rfl⟩;refine A9 rfl ?_;refine y4 ?_ ?_<;>intro c18
 obtain⟨x,hx⟩:=A8 (l:=xs) (k:=k) (by omega);obtain⟨y,hy⟩:=A8 (l:=ys) (k:=k) (by omega);rw[Q9 _ hx hy]at hJ;refine ZZ [0,3] ?_;refine xW λb8=>?_
 refine ZZ [2,4] ?_;refine xW λb9=>?_;refine ZZ [1,3] ?_;refine P6 (Ev.tmp rfl) (E2 (Ev.tmp rfl) (Ev.tmp rfl)) (hq x (qe hx) y (qe hy) _ Sb) Lb ?_;refine y1 ?_ ?_<;>intro c30
 have d30:pr x y=false:=by simpa using c30
 rw[d30]at hJ;refine Z1 ?_;refine wT h ?_;exact⟨by rw[hJ];rfl,rfl⟩;have d30:pr x y=true:=by simpa using c30
 rw[d30,qG]at hJ;refine ZZ [0,2] ?_;exact WL.nil (lN (n1-(k+1)) [(17,.int .i64 (k+1))] h ⟨k+1,⟨by omega,hJ⟩,rfl,rfl,rfl⟩);refine ZZ [0,1,0] ?_;refine wT h ?_;exact⟨by rw[hJ,qb (by omega),qb (by omega)];rfl,rfl⟩
theorem c5A(q:FuncId)(pr:Pr->Pr->Bool)(s1 s2:Oa)(n1 c1 n2 c2:Nat)(xs ys:List Pr)(h:Lr)(m:View)(h1:Rd m h s1 n1 c1 42 (fl prE xs))(h2:Rd m h s2 n2 c2 42 (fl prE ys))
 (hq:∀x∈xs,∀y∈ys,∀h',h.Sublist h'->CT prog q ([]++[prV x,prV y]++[]) h' m (A5 h' (.bool (pr x y)))) :
 CT prog 237 [.slice s1 n1 c1,.slice s2 n2 c2,.func (.func q) #[] #[]] h m (A5 h (.bool (eqL pr xs ys))):=by
 have l1:=h1.lenF a1E (by decide);have l2:=h2.lenF a1E (by decide);have m1:=h1.mx;have m2:=h2.mx;have k1:=h1.le;have k2:=h2.le;refine cB [0,1,2,6,7,8,9,14,15,16,17,18,30] func237 λ_=>?_;refine ZZ [1,5,0] ?_;refine wN ?_ ?_<;>intro c14
 refine Z1 ?_;refine wT h ?_;exact⟨by rw[U5 _ _ _ (by omega)],rfl⟩;refine ZZ [0,3,0] ?_;refine lI [1,2,15,16] (λμ F' h'=>∃k:Nat,(k<=n1/\eqL pr xs ys=eqL pr (xs.drop k) (ys.drop k))/\n1-k=μ/\F'=[(17,.int .i64 k)]/\h=h') (n1-0) [(17,.int .i64 0)] h ⟨0,⟨by omega,by simp⟩,rfl,rfl,rfl⟩ ?_;rintro _ _ _ ⟨k,⟨hk,hJ⟩,rfl,rfl,rfl⟩;refine A9 rfl ?_;refine y4 ?_ ?_<;>intro c18
 obtain⟨x,hx⟩:=A8 (l:=xs) (k:=k) (by omega);obtain⟨y,hy⟩:=A8 (l:=ys) (k:=k) (by omega);rw[Q9 _ hx hy]at hJ;refine ZZ [0,3] ?_;refine xW λb8=>?_
 refine ZZ [2,4] ?_;refine xW λb9=>?_;refine ZZ [1,3] ?_;refine P6 (Ev.tmp rfl) (E2 (Ev.tmp rfl) (Ev.tmp rfl)) (hq x (qe hx) y (qe hy) _ Sb) Lb ?_;refine y1 ?_ ?_<;>intro c30
 have d30:pr x y=false:=by simpa using c30
 rw[d30]at hJ;refine Z1 ?_;refine wT h ?_;exact⟨by rw[hJ];rfl,rfl⟩;have d30:pr x y=true:=by simpa using c30
 rw[d30,qG]at hJ;refine ZZ [0,2] ?_;exact WL.nil (lN (n1-(k+1)) [(17,.int .i64 (k+1))] h ⟨k+1,⟨by omega,hJ⟩,rfl,rfl,rfl⟩);refine ZZ [0,1,0] ?_;refine wT h ?_;exact⟨by rw[hJ,qb (by omega),qb (by omega)];rfl,rfl⟩
structure SRd(m:View)(h:Lr)(s:Sp):Prop where
 b:Rd m h s.ba s.bl.length s.bc 42 (fl prE s.bl)
 nr:Rd m h s.names.a s.names.l.length s.names.c 1 (fl encB s.names.l)
 e:TOk m h s.e
 v:PrOk m h s.vs.a s.vs.l.length s.vs.c s.vs.l
 fr:Rd m h s.fs.a s.fs.l.length s.fs.c 6 (fl foE s.fs.l)
theorem SRd.mono{m:View}{h h':Lr}{s:Sp}(q:SRd m h s)(r:h.Sublist h'):SRd m h' s:=⟨q.b.mono Vl r,q.nr.mono Vl r,q.e.mono r,q.v.mono Vl r,q.fr.mono Vl r⟩
theorem SRd.of{m:View}{h:Lr}{s:Sp}(q:SOk m h s):SRd m h s:=⟨q.b,q.nr,q.e.t,q.v,q.fr⟩
theorem b2b{m:View}{h:Lr}(x y:Sp)(hx:SRd m h x)(hy:SRd m h y):CT prog 180 [spV x,spV y] h m (A5 h (.bool (S8 x y))):=by
 have n1:=hx.nr;have n2:=hy.nr;have f1:=hx.fr;have f2:=hy.fr;have v1:=hx.v.rd;have v2:=hy.v.rd;refine cB [2,3,4,5] func180 λ_=>?_;refine xX λb2=>?_
 refine xX λb3=>?_;refine Z1 ?_;refine xG (PO.assign Ef) ?_;refine ZZ [0,10] ?_;refine C2 (GU.t rfl rfl) (λhc=>U4 a7s (by kernel_rfl) (by kernel_rfl) (Eg hc) (Eg hc) rfl) Lb ?_;refine kA6 ?_;refine A3 (GU.t rfl rfl) (λhc=>⟨Ef,(E2 (Eg hc) (Eg hc)),CT.val (b4v _ _ _ _ _ _ x.names.l y.names.l _ _ (n1.mono Vl Sb) (n2.mono Vl Sb)) (congrArg Value.bool (b7A c5g x.names.l y.names.l))⟩) Lb ?_;refine kA6 ?_;refine A3 (GU.t rfl rfl) (λhc=>⟨Ef,(E2 (Eg hc) (Eg hc)),b7R x.e y.e _ _ (hx.e.mono Sb) (hy.e.mono Sb)⟩) Lb ?_;refine kA8 ?_;refine zG (λhc=>c6f uu4 (Eg hc) (Eg hc)) ?_;refine kA9 ?_;refine A3 (GU.t rfl rfl) (λhc=>⟨Ef,(E3 (Eg hc) (Eg hc) (Eg hc)),c4V 258 N7 _ _ _ _ _ _ x.vs.l y.vs.l _ _ (v1.mono Vl Sb) (v2.mono Vl Sb) (λu hu w hw h' hh=>c9j u w ((hx.v.ok u hu).mono Vl (qX Sb hh)) ((hy.v.ok w hw).mono Vl (qX Sb hh)))⟩) Lb ?_;refine kA6 ?_
 refine A3 (GU.t rfl rfl) (λhc=>⟨Ef,(E2 (Eg hc) (Eg hc)),b5s _ _ _ _ _ _ _ _ _ _ Rr Rr⟩) Lb ?_;refine Z11 ?_;refine wT h ?_;exact⟨rfl,rfl⟩
theorem b5F(m:View)(h:Lr):SRd m h B4:=⟨Rd.nilF prE 42 m h,Rd.nilF encB 1 m h,a9Q m h,⟨Rd.nilF encV 2 m h,λ_ hv=>(by cases hv),λ_ hv=>(by cases hv)⟩,Rd.nilF foE 6 m h⟩
theorem c1L{m:View}{h:Lr}(x:Sp)(hx:SRd m h x):CT prog 162 [spV x,spV B4] h m (A5 h (.bool (S8 x B4))):=by
 refine cB [2,3,4] func162 λ_=>?_;refine xX λb2=>?_
 refine xX λb3=>?_;refine ZZ [1,2] ?_;refine xf (E2 Et Et) (b2b x B4 (hx.mono Sb) (b5F _ _)) ?_;refine kA5 ?_;refine A3 (GU.t rfl rfl) (λhc=>⟨Ef,(E3 (Eg hc) (Eg hc) Ef),CT.val (c5A 238 (λ_ _=>true) _ _ _ _ _ _ x.bl [] _ _ (hx.b.mono Vl Sb) (Rd.nilF prE 42 _ _) (λ_ _ y hy=>by cases hy)) (congrArg Value.bool (by rw[c6W hc]))⟩) Lb ?_;refine Z2 ?_;refine wT h ?_;exact⟨congrArg Value.bool (za _),rfl⟩
end
end Go.Proofs.YtgcjpahhljmlmaaGreatDoor

/- Rows that differ by their numbers alone, both lists valid, are parsed alike by package syntax: the same process, row and error, for any rows and any distances: the row's statement, with its conditions. -/
import Derived.Test.YtkemgjnejlkkcaaGreatDoorLNumbersZ8
section
namespace Go.Proofs.YtkemgjnejlkkcaaGreatDoor
set_option maxRecDepth 100000
set_option maxHeartbeats 2000000
open Go Go.Eng Go.RowKit Go.ChangeShapes Go.WideShapes Go.ChangeAt Go.Joins

theorem syntaxNumbers_lifted (os:Os) (started:os.Started) (H:Type) (enc:TypeId × Value→H) :
   ReturnsInHanded {} Tryz.checked os 3 .any (fun w args=>(Rows.syntaxNumbersSpec.pre enc Tryz.prog Tryz.f3 [] false w args∧laidMet Tryz.prog a6K w)∧sizedMet enc Tryz.prog Tryz.f3 (OpenSpec.ofChange Rows.syntaxNumbersSpec) false w args)
     (Rows.syntaxNumbersSpec.post enc Tryz.prog Tryz.f3 false true false false):=by
 refine a0A (C:=Tryz.checked) Tryz.own started (by kernel_rfl) Tryz.func3
   (ChangeSpec.witness_at (enc:=enc) (C:=Tryz.checked) (os:=os) (X:=fun w _=>laidMet Tryz.prog a6K w) false (a6i os) #[.slice none 0 0,.slice none 0 0] 8 rfl (by kernel_rfl) (by kernel_rfl) (by kernel_rfl) (by kernel_rfl) (by kernel_rfl) (a4E os _)) ?_
 intro W base args ds gs before hval hW hsz hL hsh
 have hg:=b5n hL hsh
 have hp:=b83 hL
 refine b2L (C:=Tryz.checked) Tryz.laidOut (by kernel_rfl) rfl rfl uu4 (fun ds hd=>?_) hW ?_
 · match ds,hd with
   | [d0,d1],_=>rfl
 · obtain⟨p,q,hA,hV,rfl,-,-⟩:=hW
   obtain⟨rfl,rfl⟩:=trodVars_none (show DataW.TrodVars enc Tryz.prog W (fun _=>true) [] gs q from hV)
   rw[show Tryz.checked.prog=Tryz.prog from rfl,Tryz.params3] at hA hsz
   obtain⟨v0,v1,d0,d1,p0,p1,rfl,rfl,rfl,h0,h1⟩:=trodAll_two hA
   obtain⟨a0,k0,c0,l0,rfl,hR0,hB0,hk0⟩:=c1y (hval 0 22 v0 rfl rfl) h0 (fun q hq=>by simpa using List.all_eq_true.1 hsz q (DataW.weights_mem_each (j:=0) (t:=22) rfl rfl q hq))
   obtain⟨s1,n1,e1,bs1,rfl,hG1⟩:=c0g (hval 1 23 v1 rfl rfl) h1
   exact b1G hg hp a0 k0 c0 l0 s1 n1 e1 bs1 _ hR0 hB0 hk0 hG1

theorem a6e:mapsRowed Tryz.prog=true:=by kernel_rfl
theorem a5q:Tryz.prog.inPlace 3=Rows.syntaxNumbersRow.inPlace:=by kernel_rfl
theorem a5D:Tryz.prog.unfollowed 3=Rows.syntaxNumbersRow.unfollowed:=by kernel_rfl
theorem a5w:Tryz.prog.recurses 3=Rows.syntaxNumbersRow.recurses:=by kernel_rfl
theorem a5C:Tryz.prog.varsNamed 3=Rows.syntaxNumbersRow.named:=by kernel_rfl
theorem a3E:joinedFacts Tryz.prog 3 Tryz.f3 Rows.syntaxNumbersSpec Rows.syntaxNumbersRow=true:=by
 unfold joinedFacts
 rw[Tryz.laidOut,a6e,a5q,a5D,a5w,a5C]
 kernel_rfl
theorem syntaxNumbers_holds:Rows.SyntaxNumbersSaid:=
 OpenClaim.holds_of_wide 3 Tryz.f3 rfl rfl rfl rfl rfl rfl rfl ⟨rfl,rfl,rfl,rfl,rfl⟩ rfl rfl rfl rfl rfl (by kernel_rfl) Tryz.func3 a3E
   (of_decide_eq_true (by kernel_rfl)) (by unfold Func.isWrapper;rw[if_neg (by decide +kernel)];exact⟨rfl,rfl⟩)
   (fun os started H enc _=>syntaxNumbers_lifted os started H enc)

theorem syntaxNumbers_card:Rows.SyntaxNumbersCardSaid:=
 Claim7.holds_tied_plain_at .later [] [.data, .data, .data, .data, .data, .data, .data, .data, .pinned] true (true, "ac9949cc4afaaf0b28653aa4ea51f0bda24b894f1e78237bf150cee932f1ef7d") true
   syntaxNumbers_holds (fun _ h=>by cases h) (by kernel_rfl) (fun _ h=>by cases h) syntaxNumbers_row_tie rfl ⟨rfl,rfl⟩ (by kernel_rfl) rfl
   (fun f fn hf hfn=>by
     obtain rfl : f = 3 := Option.some.inj ((show Tryz.prog.funcNamed "transputer/transputerlaw11.SyntaxNumbers" = some 3 by kernel_rfl).symm.trans hf) |>.symm
     obtain rfl:fn=Tryz.f3:=(Option.some.inj (Tryz.func3.symm.trans hfn)).symm
     exact⟨by kernel_rfl,fun j t ht=>by
       rw[Tryz.params3] at ht
       match j,ht with
       | 0,ht=>cases ht;exact(show Tryz.prog.wantsStandIn 22=false by kernel_rfl)
       | 1,ht=>cases ht;exact(show Tryz.prog.wantsStandIn 23=false by kernel_rfl)
       | j+2,ht=>simp at ht⟩)
   (by kernel_rfl)
end Go.Proofs.YtkemgjnejlkkcaaGreatDoor
end
section
namespace Go.Proofs.YtkemgjnejlkkcaaGreatDoor
set_option maxRecDepth 100000
set_option maxHeartbeats 2000000
open Go.Eng Go.Pc Go.Sx Go
open Go.Xp hiding B D9
open Go.Ly (Rw I6 C7)
def sqA (b:Nat) (x:Pr):Pr:=.mk 8 [] A3 B5 B5 a2m none 0 [] (some ⟨b,0,none⟩) 1 [x] B5 D2
def tiA (b:Nat):Sp:=.mk 1 ⟨5,0,0,[]⟩ ⟨some ⟨b,0,none⟩,1,[[116]]⟩ A3 false B5 B5 none 0 []
def dcA (b c:Nat) (x:Pr):Pr:=.mk 18 [] A3 B5 B5 a2m none 0 [] (some ⟨c,0,none⟩) 1 [x] B5 (tiA b)
theorem c4H (b:Nat) (x:Pr):stP (sqA b x)=sqP (stP x):=rfl
theorem c5A (b c:Nat) (x:Pr):stP (dcA b c x)=dcP (stP x):=rfl
theorem c5n {m:View} {h:List Res} {b:Nat} {x:Pr} (hx:POk m h x) (hb:Res.pt b (.cells (prE x).toArray 52 (0,0)) ∈ h):POk m h (sqA b x):=
 a3f (by decide) (Nat.zero_le _) (F1 _ _) (F3 _ _) (F3 _ _) (R4 _ _) (X9 _ _) ⟨Rd.ofPt rfl (show 1≤9223372036854775807 by decide) hb,fun y hy=>by rw[List.mem_singleton] at hy;subst hy;exact hx⟩ (U9 _ _) (Q3 _ _)
theorem c4S {m:View} {h:List Res} {b c:Nat} {x:Pr} (hx:POk m h x) (hb:Res.pt b (.cells [str [116]].toArray 9 (0,0)) ∈ h) (hc:Res.pt c (.cells (prE x).toArray 52 (0,0)) ∈ h):POk m h (dcA b c x):=
 a3f (by decide) (Nat.zero_le _) (F1 _ _) (F3 _ _) (F3 _ _) (R4 _ _) (X9 _ _) ⟨Rd.ofPt rfl (show 1≤9223372036854775807 by decide) hc,fun y hy=>by rw[List.mem_singleton] at hy;subst hy;exact hx⟩ (U9 _ _)
   (sS1 (by decide) ⟨by decide,by decide,by decide,Nat.zero_le _⟩ (Rd.ofPt rfl (show 1≤9223372036854775807 by decide) hb) (fun y hy=>by rw[List.mem_singleton] at hy;subst hy;exact leB rfl) (F1 _ _))
theorem c4w {a:Nat} (h:a≤1000):W64 (a:Int)=a:=by
 unfold W64
 rw[IntKind.wrap_i64]
 omega
theorem c4b (b:Nat) (x:Pr):N8 (sqA b x)=N8 x+1:=by show 1+((N8 x+0)+(0+0))=_;omega
theorem c4y (b c:Nat) (x:Pr):N8 (dcA b c x)=N8 x+1:=by show 1+((N8 x+0)+(0+0))=_;omega
theorem b9i {m:View} (hg:Glob m) (hp:Pow m) (u v:Nat) (hu:u≤255) (hv:v≤255) (h:List Res):CT Tryz.prog 4 [.int .u8 u,.int .u8 v] h m Law:=by
 obtain⟨n,hn,hn1⟩:∃ n,u % 41=n∧n≤40:=⟨_,rfl,by omega⟩
 obtain⟨k,hk,hk1⟩:∃ k,v % 61=k∧k≤60:=⟨_,rfl,by omega⟩
 have hn2:((u:Int).tmod 41)=(n:Int):=by rw[← hn];exact(Int.ofNat_tmod u 41).symm
 have hk2:((v:Int).tmod 61)=(k:Int):=by rw[← hk];exact(Int.ofNat_tmod v 61).symm
 refine CT.body Tryz.call4 Tryz.func4 rfl Tryz.ntmps4 Lb rfl ?_
 refine kQ1 [0,1] ?_
 refine kA1 ?_
 refine xG (PO.conv uu5 uu3 Et) ?_
 refine WL.val (v':=.int .i64 u) (congrArg (Value.int .i64) (by rw[IntKind.wrap_i64];omega)) ?_
 refine xG (PO.rem Et Ev.const (by decide)) ?_
 refine WL.val (v':=.int .i64 n) (congrArg (Value.int .i64) hn2) ?_
 refine kA1 ?_
 refine xG (PO.conv uu5 uu3 Et) ?_
 refine WL.val (v':=.int .i64 v) (congrArg (Value.int .i64) (by rw[IntKind.wrap_i64];omega)) ?_
 refine xG (PO.rem Et Ev.const (by decide)) ?_
 refine WL.val (v':=.int .i64 k) (congrArg (Value.int .i64) hk2) ?_
 refine kQ2 [5,6] ?_
 refine kA1 ?_
 refine xW fun b7=>?_
 refine kQ1 [5,6,7] ?_
 refine kQ2 [5,6,7,17,18] ?_
 refine B1 [5,6,7,17] rfl (fun μ F' h'=>∃ i:Nat,∃ x:Pr,∃ bl:List Res,((i≤n∧stP x=a4A i)∧(N8 x=i+1∧POk m bl x))∧n - i=μ∧F'=[(18,.int .i64 i)]∧.pt b7 (.cells (prE x).toArray 52 (0,0))::(bl++h)=h') (n - 0) [(18,.int .i64 0)] (h0:=.pt b7 (.cells (prE skP).toArray 52 (0,0))::(([])++h)) ?_ Sb ⟨0,skP,[],⟨⟨Nat.zero_le _,rfl⟩,rfl,b9o _ _⟩,rfl,rfl,rfl⟩ ?_
 exact Su
 rintro _ _ _ ⟨i,x,bl,⟨⟨hi,hst⟩,hct,hok⟩,rfl,rfl,rfl⟩
 refine B3 rfl ?_
 refine kQ1 [5,6,7,17,18,19] ?_
 refine wc (fun c19=>?_) fun c19=>?_
 replace c19:=dT c19
 refine kQ0 [5,6,7,17,18] ?_
 refine xG (M0 P3 rfl rfl Et (by (repeat (first | exact a0J _ | apply a0E | apply List.mem_append_right))) rfl) ?_
 refine xY Z9 (EvP.cons Et EvP.nil) fun b21=>?_
 refine kA2 ?_
 refine WL.perm (List.Perm.swap _ _ _) ?_
 refine kQ0 [5,6,7,17,18] ?_
 refine kA2 ?_
 refine WL.nil (A6 (n - (i+1)) [(18,.int .i64 (i+1))] (h'':=.pt b7 (.cells (prE (sqA b21 x)).toArray 52 (0,0))::((.pt b21 (.cells (prE x).toArray 52 (0,0))::bl)++h)) (by omega) ?_ Su Sb ⟨i+1,sqA b21 x,.pt b21 (.cells (prE x).toArray 52 (0,0))::bl,⟨⟨by omega,by rw[c4H,hst];rfl⟩,by rw[c4b,hct],c5n (hok.mono (List.sublist_cons_self _ _)) (List.Mem.head _)⟩,rfl,rfl,rfl⟩)
 exact Su
 replace c19:=dF c19
 obtain rfl:i=n:=by omega
 refine kQ0 [5,6,7] ?_
 refine kQ2 [5,6,7,24,25] ?_
 refine B1 [5,6,7,24] rfl (fun μ F' h'=>∃ j:Nat,∃ y:Pr,∃ bl2:List Res,((j≤k∧stP y=a1D i j)∧(N8 y=i+j+1∧POk m bl2 y))∧k - j=μ∧F'=[(25,.int .i64 j)]∧.pt b7 (.cells (prE y).toArray 52 (0,0))::(bl2++h)=h') (k - 0) [(25,.int .i64 0)] (h0:=.pt b7 (.cells (prE x).toArray 52 (0,0))::(bl++h)) ?_ Sb ⟨0,x,bl,⟨⟨Nat.zero_le _,hst⟩,hct,hok⟩,rfl,rfl,rfl⟩ ?_
 exact Su
 rintro _ _ _ ⟨j,y,bl2,⟨⟨hj,hst2⟩,hct2,hok2⟩,rfl,rfl,rfl⟩
 refine B3 rfl ?_
 refine kQ1 [5,6,7,24,25,26] ?_
 refine wc (fun c26=>?_) fun c26=>?_
 replace c26:=dT c26
 refine kQ0 [5,6,7,24,25] ?_
 refine kA1 ?_
 refine xY N3 (EvP.cons Ev.const EvP.nil) fun b28=>?_
 refine kA1 ?_
 refine xG (M0 P3 rfl rfl Et (by (repeat (first | exact a0J _ | apply a0E | apply List.mem_append_right))) rfl) ?_
 refine xY Z9 (EvP.cons Et EvP.nil) fun b31=>?_
 refine kA2 ?_
 refine WL.perm (List.perm_middle (l₁:=[_,_])) ?_
 refine kQ0 [5,6,7,24,25] ?_
 refine kA2 ?_
 refine WL.nil (A6 (k - (j+1)) [(25,.int .i64 (j+1))] (h'':=.pt b7 (.cells (prE (dcA b28 b31 y)).toArray 52 (0,0))::((.pt b31 (.cells (prE y).toArray 52 (0,0))::.pt b28 (.cells [str [116]].toArray 9 (0,0))::bl2)++h)) (by omega) ?_ Su Sb ⟨j+1,dcA b28 b31 y,.pt b31 (.cells (prE y).toArray 52 (0,0))::.pt b28 (.cells [str [116]].toArray 9 (0,0))::bl2,⟨⟨by omega,by rw[c5A,hst2];rfl⟩,by rw[c4y,hct2];omega,c4S (hok2.mono ((List.sublist_cons_self _ _).cons _)) (List.Mem.tail _ (List.Mem.head _)) (List.Mem.head _)⟩,rfl,rfl,rfl⟩)
 exact Su
 replace c26:=dF c26
 obtain rfl:j=k:=by omega
 have hmay:mayP y=decide (i≤32):=by rw[← b4D,hst2,a5Z i j (by omega)]
 have hprn:M8 y=M8 (a1D i j):=by rw[← hst2,b1U]
 refine kQ0 [5,6,7] ?_
 refine xG (M0 P3 rfl rfl Et (by (repeat (first | exact a0J _ | apply a0E | apply List.mem_append_right))) rfl) ?_
 refine xg (E1 Et) (b2G hg hp y _ (hok2.mono Sb)) ?_
 rintro _ _ ⟨a36,c36,bl3,rfl,hrd,rfl,-⟩
 rw[hprn] at hrd
 rw[hprn]
 obtain⟨L,hM1⟩:∃ L,(M8 (a1D i j)).1=L:=⟨_,rfl⟩
 obtain⟨e,hM2⟩:∃ e,(M8 (a1D i j)).2=e:=⟨_,rfl⟩
 have hM:M8 (a1D i j)=(L,e):=by rw[← hM1,← hM2]
 rw[hM1] at hrd
 rw[hM1,hM2]
 refine kQ5 [5,6,7,8,9] ?_
 refine kQ2 [5,6,7,8,9,40] ?_
 refine wc (fun c40=>?_) fun c40=>?_
 replace c40:=dT c40
 have hgt:32 < i:=by omega
 have he:e=2:=by rw[(b0O i j hgt (by omega)).1] at hM;exact(Prod.mk.inj hM).2.symm
 refine j0 ?_
 refine xG (M0 P3 rfl rfl Et (by (repeat (first | exact a0J _ | apply a0E | apply List.mem_append_right))) rfl) ?_
 refine xf (E1 Et) (a5L hg y (hok2.mono Sb)) ?_
 refine kA6 ?_
 refine A8 (GU.t rfl rfl) (fun hc=>⟨Ev.func,Evs.nil,a5a hg hp _⟩) Lb ?_
 refine kQ2 [4] ?_
 refine WC.ret (wR (h) ?_)
 exact congrArg Value.bool (by rw[hmay];simp[he];omega)
 replace c40:=dF c40
 obtain⟨R,hR1,hR2,x',hR3,hR4⟩:=b4s i j (by omega) (by omega)
 obtain⟨rfl,rfl⟩:L=R∧e=0:=by rw[hM] at hR1;exact Prod.mk.inj hR1
 have hmt:mayP y=true:=by rw[hmay];exact decide_eq_true (by omega)
 refine kQ0 [5,6,7,8,9] ?_
 refine xG (M0 P3 rfl rfl Et (by (repeat (first | exact a0J _ | apply a0E | apply List.mem_append_right))) rfl) ?_
 refine xf (E1 Et) (CT.val (a5L hg y (hok2.mono Sb)) (congrArg Value.bool hmt)) ?_
 refine kA1 ?_
 refine zU ?_
 refine xG (M0 P3 rfl rfl Et (by (repeat (first | exact a0J _ | apply a0E | apply List.mem_append_right))) rfl) ?_
 refine zU ?_
 refine xf (E1 Et) (CT.val (b5a y _ m (hok2.mono Sb)) (congrArg (Value.int .i64) (show W64 (N8 y)=((i+j+1:Nat):Int) by rw[hct2];exact c4w (by omega)))) ?_
 refine zU ?_
 refine kA1 ?_
 refine zU ?_
 refine kA1 ?_
 refine zU ?_
 refine xG (I7 Et Et (by first | omega | (simp at hc;omega))) ?_
 refine zU ?_
 refine xG (I7 Et Ev.const (by first | omega | (simp at hc;omega))) ?_
 refine zU ?_
 refine kA1 ?_
 refine wV (b':=true) (by simp) ?_
 refine kA2 ?_
 refine zU ?_
 refine kA1 ?_
 refine zU ?_
 refine kA1 ?_
 refine wV (b':=true) (by simp) ?_
 refine kA2 ?_
 refine zU ?_
 refine kA1 ?_
 refine zU ?_
 refine kA1 ?_
 refine zU ?_
 refine kA1 ?_
 refine zU ?_
 refine kA1 ?_
 refine zU ?_
 refine xG (I7 Et Et (by first | omega | (simp at hc;omega))) ?_
 refine zU ?_
 refine xG (I7 Et Ev.const (by first | omega | (simp at hc;omega))) ?_
 refine zU ?_
 refine kA1 ?_
 refine wV (b':=true) (by rw[hR2];simp) ?_
 refine kA2 ?_
 refine zU ?_
 refine kA1 ?_
 refine zU ?_
 refine kA1 ?_
 refine zU ?_
 refine kA1 ?_
 refine zU ?_
 refine xG (I7 Et Et (by first | omega | (simp at hc;omega))) ?_
 refine WL.val (v':=.int .i64 ((i+j:Nat):Int)) (congrArg (Value.int .i64) (by omega)) ?_
 refine zU ?_
 refine xG (F4 S8.und S8.size S8.posz Et Et (by first | assumption | exact Rd.ofSl (by assumption) | exact Rd.ofPt rfl (by decide) (by (repeat (first | exact a0J _ | apply a0E | apply List.mem_append_right))) | exact Rd.mono (by assumption) (View.le.refl _) Sb | exact Rd.inRow (by (repeat (first | exact a0J _ | apply a0E | apply List.mem_append_right))) (by assumption) (by assumption) (by assumption)) rfl (by omega)) ?_
 refine zU ?_
 refine xG (F5 a6R rfl (Nat.ne_of_beq_eq_false rfl) C7 (Nat.succ_pos _) (by first | assumption | exact Rd.ofSl (by assumption) | exact Rd.ofPt rfl (by decide) (by (repeat (first | exact a0J _ | apply a0E | apply List.mem_append_right))) | exact Rd.mono (by assumption) (View.le.refl _) Sb | exact Rd.inRow (by (repeat (first | exact a0J _ | apply a0E | apply List.mem_append_right))) (by assumption) (by assumption) (by assumption)) (by assumption) Et) ?_
 refine zU ?_
 refine xG (F8 uu3 rfl C7 (by first | assumption | exact Rd.ofSl (by assumption) | exact Rd.ofPt rfl (by decide) (by (repeat (first | exact a0J _ | apply a0E | apply List.mem_append_right))) | exact Rd.mono (by assumption) (View.le.refl _) Sb | exact Rd.inRow (by (repeat (first | exact a0J _ | apply a0E | apply List.mem_append_right))) (by assumption) (by assumption) (by assumption)) Et (by assumption) rfl) ?_
 refine zU ?_
 refine kA1 ?_
 refine zU ?_
 refine kA1 ?_
 refine wV (b':=true) (by rw[hR4];simp) ?_
 refine kA2 ?_
 refine zU ?_
 refine xf E0 (a5a hg hp _) ?_
 refine kQ2 [4] ?_
 refine WC.ret (wR (h) ?_)
 rfl
end Go.Proofs.YtkemgjnejlkkcaaGreatDoor
end
section
namespace Go.Proofs.YtkemgjnejlkkcaaGreatDoor
set_option maxRecDepth 100000
set_option maxHeartbeats 2000000
open Go Go.Eng Go.RowKit Go.ChangeShapes Go.WideShapes Go.ChangeAt Go.Joins

theorem syntaxDeep_lifted (os:Os) (started:os.Started) (H:Type) (enc:TypeId × Value→H) :
   ReturnsInHanded {} Tryz.checked os 4 .any (fun w args=>(Rows.syntaxDeepSpec.pre enc Tryz.prog Tryz.f4 [] false w args∧laidMet Tryz.prog a6K w)∧sizedMet enc Tryz.prog Tryz.f4 (OpenSpec.ofChange Rows.syntaxDeepSpec) false w args)
     (Rows.syntaxDeepSpec.post enc Tryz.prog Tryz.f4 false true false false):=by
 refine a0A (C:=Tryz.checked) Tryz.own started (by kernel_rfl) Tryz.func4
   (ChangeSpec.witness_at (enc:=enc) (C:=Tryz.checked) (os:=os) (X:=fun w _=>laidMet Tryz.prog a6K w) false (a6i os) #[.int .u8 0,.int .u8 0] 8 rfl (by kernel_rfl) (by kernel_rfl) (by kernel_rfl) (by kernel_rfl) (by kernel_rfl) (a4E os _)) ?_
 intro W base args ds gs before hval hW hsz hL hsh
 have hg:=b5n hL hsh
 have hp:=b83 hL
 refine b2L (C:=Tryz.checked) Tryz.laidOut (by kernel_rfl) rfl rfl uu4 (fun ds hd=>?_) hW ?_
 · match ds,hd with
   | [d0,d1],_=>rfl
 · obtain⟨p,q,hA,hV,rfl,-,-⟩:=hW
   obtain⟨rfl,rfl⟩:=trodVars_none (show DataW.TrodVars enc Tryz.prog W (fun _=>true) [] gs q from hV)
   rw[show Tryz.checked.prog=Tryz.prog from rfl,Tryz.params4] at hA hsz
   obtain⟨v0,v1,d0,d1,p0,p1,rfl,rfl,rfl,h0,h1⟩:=trodAll_two hA
   obtain⟨v,rfl,rfl,rfl,wv0⟩:=open_int uu5 (hval 0 5 v0 rfl rfl) h0
   have wv0:0≤v∧v≤255:=by simpa [Lit.wf,show IntKind.u8.min=0 from rfl,show IntKind.u8.max=255 from rfl] using wv0
   obtain⟨w0,rfl⟩:∃ n:Nat,v=n:=⟨v.toNat,by omega⟩
   obtain⟨v,rfl,rfl,rfl,wv1⟩:=open_int uu5 (hval 1 5 v1 rfl rfl) h1
   have wv1:0≤v∧v≤255:=by simpa [Lit.wf,show IntKind.u8.min=0 from rfl,show IntKind.u8.max=255 from rfl] using wv1
   obtain⟨w1,rfl⟩:∃ n:Nat,v=n:=⟨v.toNat,by omega⟩
   exact b9i hg hp w0 w1 (by omega) (by omega) _

theorem a9g:mapsRowed Tryz.prog=true:=by kernel_rfl
theorem a8g:Tryz.prog.inPlace 4=Rows.syntaxDeepRow.inPlace:=by kernel_rfl
theorem a8Q:Tryz.prog.unfollowed 4=Rows.syntaxDeepRow.unfollowed:=by kernel_rfl
theorem a8t:Tryz.prog.recurses 4=Rows.syntaxDeepRow.recurses:=by kernel_rfl
theorem a8U:Tryz.prog.varsNamed 4=Rows.syntaxDeepRow.named:=by kernel_rfl
theorem a5z:joinedFacts Tryz.prog 4 Tryz.f4 Rows.syntaxDeepSpec Rows.syntaxDeepRow=true:=by
 unfold joinedFacts
 rw[Tryz.laidOut,a9g,a8g,a8Q,a8t,a8U]
 kernel_rfl
theorem syntaxDeep_holds:Rows.SyntaxDeepSaid:=
 OpenClaim.holds_of_wide 4 Tryz.f4 rfl rfl rfl rfl rfl rfl rfl ⟨rfl,rfl,rfl,rfl,rfl⟩ rfl rfl rfl rfl rfl (by kernel_rfl) Tryz.func4 a5z
   (of_decide_eq_true (by kernel_rfl)) (by unfold Func.isWrapper;rw[if_neg (by decide +kernel)];exact⟨rfl,rfl⟩)
   (fun os started H enc _=>syntaxDeep_lifted os started H enc)

theorem syntaxDeep_card:Rows.SyntaxDeepCardSaid:=
 Claim7.holds_tied_plain_at .later [] [.data, .data, .data, .data, .data, .data, .data, .data, .pinned] true (true, "ac9949cc4afaaf0b28653aa4ea51f0bda24b894f1e78237bf150cee932f1ef7d") true
   syntaxDeep_holds (fun _ h=>by cases h) (by kernel_rfl) (fun _ h=>by cases h) syntaxDeep_row_tie rfl ⟨rfl,rfl⟩ (by kernel_rfl) rfl
   (fun f fn hf hfn=>by
     obtain rfl : f = 4 := Option.some.inj ((show Tryz.prog.funcNamed "transputer/transputerlaw11.SyntaxDeep" = some 4 by kernel_rfl).symm.trans hf) |>.symm
     obtain rfl:fn=Tryz.f4:=(Option.some.inj (Tryz.func4.symm.trans hfn)).symm
     exact⟨by kernel_rfl,fun j t ht=>by
       rw[Tryz.params4] at ht
       match j,ht with
       | 0,ht=>cases ht;exact(show Tryz.prog.wantsStandIn 5=false by kernel_rfl)
       | 1,ht=>cases ht;exact(show Tryz.prog.wantsStandIn 5=false by kernel_rfl)
       | j+2,ht=>simp at ht⟩)
   (by kernel_rfl)
end Go.Proofs.YtkemgjnejlkkcaaGreatDoor
end

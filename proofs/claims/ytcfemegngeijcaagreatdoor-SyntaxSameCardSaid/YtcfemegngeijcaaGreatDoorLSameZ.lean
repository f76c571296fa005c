/- Same of package syntax returns what the reference's Same returns, for any two processes; it holds of a process and itself, and both ways alike: the row's statement with its conditions. -/
import Derived.Test.YtcfemegngeijcaaGreatDoorLSameZ8
namespace Go.Proofs.YtcfemegngeijcaaGreatDoor
set_option maxRecDepth 100000
set_option maxHeartbeats 2000000
open Go Go.Eng Go.RowKit Go.ChangeShapes Go.WideShapes Go.ChangeAt Go.Joins

theorem syntaxSame_lifted (os:Os) (started:os.Started) (H:Type) (enc:TypeId × Value→H) :
   ReturnsInHanded {} Tryz.checked os 4 .any (fun w args=>(Rows.syntaxSameSpec.pre enc Tryz.prog Tryz.f4 [] false w args∧laidMet Tryz.prog a9q w)∧sizedMet enc Tryz.prog Tryz.f4 (OpenSpec.ofChange Rows.syntaxSameSpec) false w args)
     (Rows.syntaxSameSpec.post enc Tryz.prog Tryz.f4 false true false false):=by
 refine a3K (C:=Tryz.checked) Tryz.own started (by kernel_rfl) Tryz.func4
   (ChangeSpec.witness_at (enc:=enc) (C:=Tryz.checked) (os:=os) (X:=fun w _=>laidMet Tryz.prog a9q w) false (a9h os) #[.agg #[.int .u8 0,.string ⟨#[]⟩,.int .u8 0,.int .u8 0,.int .u8 0,.int .i32 0,.string ⟨#[]⟩,.slice none 0 0,.slice none 0 0,.slice none 0 0,.string ⟨#[]⟩,.int .u8 0,.int .u8 0,.int .u8 0,.int .i32 0,.string ⟨#[]⟩,.slice none 0 0,.int .u8 0,.int .u8 0,.int .u8 0,.int .i32 0,.string ⟨#[]⟩,.slice none 0 0,.slice none 0 0,.slice none 0 0,.slice none 0 0,.int .u8 0,.int .u8 0,.int .i64 0,.int .u8 0,.string ⟨#[]⟩,.slice none 0 0,.int .u8 0,.int .u8 0,.int .u8 0,.int .i32 0,.string ⟨#[]⟩,.slice none 0 0,.bool false,.slice none 0 0,.slice none 0 0,.slice none 0 0],.agg #[.int .u8 0,.string ⟨#[]⟩,.int .u8 0,.int .u8 0,.int .u8 0,.int .i32 0,.string ⟨#[]⟩,.slice none 0 0,.slice none 0 0,.slice none 0 0,.string ⟨#[]⟩,.int .u8 0,.int .u8 0,.int .u8 0,.int .i32 0,.string ⟨#[]⟩,.slice none 0 0,.int .u8 0,.int .u8 0,.int .u8 0,.int .i32 0,.string ⟨#[]⟩,.slice none 0 0,.slice none 0 0,.slice none 0 0,.slice none 0 0,.int .u8 0,.int .u8 0,.int .i64 0,.int .u8 0,.string ⟨#[]⟩,.slice none 0 0,.int .u8 0,.int .u8 0,.int .u8 0,.int .i32 0,.string ⟨#[]⟩,.slice none 0 0,.bool false,.slice none 0 0,.slice none 0 0,.slice none 0 0]] 8 rfl (by kernel_rfl) (by kernel_rfl) (by kernel_rfl) (by kernel_rfl) (by kernel_rfl) (a8k os _)) ?_
 intro W base args ds gs before hval hW hsz hL hsh
 have hg:=c0G hL hsh
 have hp:=c1N hL
 refine b7O (C:=Tryz.checked) Tryz.laidOut (by kernel_rfl) rfl rfl uu4 (fun ds hd=>?_) hW ?_
 · match ds,hd with
   | [d0,d1],_=>rfl
 · obtain⟨p,q,hA,hV,rfl,-,-⟩:=hW
   obtain⟨rfl,rfl⟩:=trodVars_none (show DataW.TrodVars enc Tryz.prog W (fun _=>true) [] gs q from hV)
   rw[show Tryz.checked.prog=Tryz.prog from rfl,Tryz.params4] at hA hsz
   obtain⟨v0,v1,d0,d1,p0,p1,rfl,rfl,rfl,h0,h1⟩:=trodAll_two hA
   obtain⟨p0,rfl,hP0⟩:=b7K (hval 0 45 v0 rfl rfl) h0 (fun q hq=>by simpa using List.all_eq_true.1 hsz q (DataW.weights_mem_each (j:=0) (t:=45) rfl rfl q hq))
   obtain⟨p1,rfl,hP1⟩:=b7K (hval 1 45 v1 rfl rfl) h1 (fun q hq=>by simpa using List.all_eq_true.1 hsz q (DataW.weights_mem_each (j:=1) (t:=45) rfl rfl q hq))
   exact b8l hg hp p0 p1 _ hP0 hP1

theorem a8s:mapsRowed Tryz.prog=true:=by kernel_rfl
theorem a7Y:Tryz.prog.inPlace 4=Rows.syntaxSameRow.inPlace:=by kernel_rfl
theorem a7B:Tryz.prog.unfollowed 4=Rows.syntaxSameRow.unfollowed:=by kernel_rfl
theorem a6Y:Tryz.prog.recurses 4=Rows.syntaxSameRow.recurses:=by kernel_rfl
theorem a7v:Tryz.prog.varsNamed 4=Rows.syntaxSameRow.named:=by kernel_rfl
theorem a5i:joinedFacts Tryz.prog 4 Tryz.f4 Rows.syntaxSameSpec Rows.syntaxSameRow=true:=by
 unfold joinedFacts
 rw[Tryz.laidOut,a8s,a7Y,a7B,a6Y,a7v]
 kernel_rfl
theorem syntaxSame_holds:Rows.SyntaxSameSaid:=
 OpenClaim.holds_of_wide 4 Tryz.f4 rfl rfl rfl rfl rfl rfl rfl ⟨rfl,rfl,rfl,rfl,rfl⟩ rfl rfl rfl rfl rfl (by kernel_rfl) Tryz.func4 a5i
   (of_decide_eq_true (by kernel_rfl)) (by unfold Func.isWrapper;rw[if_neg (by decide +kernel)];exact⟨rfl,rfl⟩)
   (fun os started H enc _=>syntaxSame_lifted os started H enc)

theorem syntaxSame_card:Rows.SyntaxSameCardSaid:=
 Claim7.holds_tied_plain_at .later [] [.data, .data, .data, .data, .data, .data, .data, .data, .pinned] true (true, "f2b00c31d59e71deb31b9e89c43038060f532a268b51dbc50005c3b944ecce25") true
   syntaxSame_holds (fun _ h=>by cases h) (by kernel_rfl) (fun _ h=>by cases h) syntaxSame_row_tie rfl ⟨rfl,rfl⟩ (by kernel_rfl) rfl
   (fun f fn hf hfn=>by
     obtain rfl : f = 4 := Option.some.inj ((show Tryz.prog.funcNamed "transputer/transputerlaw11.SyntaxSame" = some 4 by kernel_rfl).symm.trans hf) |>.symm
     obtain rfl:fn=Tryz.f4:=(Option.some.inj (Tryz.func4.symm.trans hfn)).symm
     exact⟨by kernel_rfl,fun j t ht=>by
       rw[Tryz.params4] at ht
       match j,ht with
       | 0,ht=>cases ht;exact(show Tryz.prog.wantsStandIn 45=false by kernel_rfl)
       | 1,ht=>cases ht;exact(show Tryz.prog.wantsStandIn 45=false by kernel_rfl)
       | j+2,ht=>simp at ht⟩)
   (by kernel_rfl)
end Go.Proofs.YtcfemegngeijcaaGreatDoor

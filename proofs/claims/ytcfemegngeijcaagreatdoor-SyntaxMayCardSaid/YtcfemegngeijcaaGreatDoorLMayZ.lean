/- May and Size of package syntax return what the reference returns, for any process: the row's statement with its conditions. -/
import Derived.Test.YtcfemegngeijcaaGreatDoorLMayZ8
namespace Go.Proofs.YtcfemegngeijcaaGreatDoor
set_option maxRecDepth 100000
set_option maxHeartbeats 2000000
open Go Go.Eng Go.RowKit Go.ChangeShapes Go.WideShapes Go.ChangeAt Go.Joins

theorem syntaxMay_lifted (os:Os) (started:os.Started) (H:Type) (enc:TypeId × Value→H) :
   ReturnsInHanded {} Tryz.checked os 3 .any (fun w args=>(Rows.syntaxMaySpec.pre enc Tryz.prog Tryz.f3 [] false w args∧laidMet Tryz.prog a9M w)∧sizedMet enc Tryz.prog Tryz.f3 (OpenSpec.ofChange Rows.syntaxMaySpec) false w args)
     (Rows.syntaxMaySpec.post enc Tryz.prog Tryz.f3 false true false false):=by
 refine a4j (C:=Tryz.checked) Tryz.own started (by kernel_rfl) Tryz.func3
   (ChangeSpec.witness_at (enc:=enc) (C:=Tryz.checked) (os:=os) (X:=fun w _=>laidMet Tryz.prog a9M w) false (b0u os) #[.agg #[.int .u8 0,.string ⟨#[]⟩,.int .u8 0,.int .u8 0,.int .u8 0,.int .i32 0,.string ⟨#[]⟩,.slice none 0 0,.slice none 0 0,.slice none 0 0,.string ⟨#[]⟩,.int .u8 0,.int .u8 0,.int .u8 0,.int .i32 0,.string ⟨#[]⟩,.slice none 0 0,.int .u8 0,.int .u8 0,.int .u8 0,.int .i32 0,.string ⟨#[]⟩,.slice none 0 0,.slice none 0 0,.slice none 0 0,.slice none 0 0,.int .u8 0,.int .u8 0,.int .i64 0,.int .u8 0,.string ⟨#[]⟩,.slice none 0 0,.int .u8 0,.int .u8 0,.int .u8 0,.int .i32 0,.string ⟨#[]⟩,.slice none 0 0,.bool false,.slice none 0 0,.slice none 0 0,.slice none 0 0]] 8 rfl (by kernel_rfl) (by kernel_rfl) (by kernel_rfl) (by kernel_rfl) (by kernel_rfl) (a9I os _)) ?_
 intro W base args ds gs before hval hW hsz hL hsh
 have hg:=c0T hL hsh
 have hp:=c4r hL
 refine b83 (C:=Tryz.checked) Tryz.laidOut (by kernel_rfl) rfl rfl uu4 (fun ds hd=>?_) hW ?_
 · match ds,hd with
   | [d0],_=>rfl
 · obtain⟨p,q,hA,hV,rfl,-,-⟩:=hW
   obtain⟨rfl,rfl⟩:=trodVars_none (show DataW.TrodVars enc Tryz.prog W (fun _=>true) [] gs q from hV)
   rw[show Tryz.checked.prog=Tryz.prog from rfl,Tryz.params3] at hA hsz
   obtain⟨v0,d0,rfl,rfl,h0⟩:=trodAll_one hA
   obtain⟨p0,rfl,hP0⟩:=c4U (hval 0 45 v0 rfl rfl) h0 (fun q hq=>by simpa using List.all_eq_true.1 hsz q (DataW.weights_mem_each (j:=0) (t:=45) rfl rfl q hq))
   exact c1D hg hp p0 _ hP0

theorem b1v:mapsRowed Tryz.prog=true:=by kernel_rfl
theorem a9w:Tryz.prog.inPlace 3=Rows.syntaxMayRow.inPlace:=by kernel_rfl
theorem a9A:Tryz.prog.unfollowed 3=Rows.syntaxMayRow.unfollowed:=by kernel_rfl
theorem a9H:Tryz.prog.recurses 3=Rows.syntaxMayRow.recurses:=by kernel_rfl
theorem a9u:Tryz.prog.varsNamed 3=Rows.syntaxMayRow.named:=by kernel_rfl
theorem a6z:joinedFacts Tryz.prog 3 Tryz.f3 Rows.syntaxMaySpec Rows.syntaxMayRow=true:=by
 unfold joinedFacts
 rw[Tryz.laidOut,b1v,a9w,a9A,a9H,a9u]
 kernel_rfl
theorem syntaxMay_holds:Rows.SyntaxMaySaid:=
 OpenClaim.holds_of_wide 3 Tryz.f3 rfl rfl rfl rfl rfl rfl rfl ⟨rfl,rfl,rfl,rfl,rfl⟩ rfl rfl rfl rfl rfl (by kernel_rfl) Tryz.func3 a6z
   (of_decide_eq_true (by kernel_rfl)) (by unfold Func.isWrapper;rw[if_neg (by decide +kernel)];exact⟨rfl,rfl⟩)
   (fun os started H enc _=>syntaxMay_lifted os started H enc)

theorem syntaxMay_card:Rows.SyntaxMayCardSaid:=
 Claim7.holds_tied_plain_at .later [] [.data, .data, .data, .data, .data, .data, .data, .data, .pinned] true (true, "f2b00c31d59e71deb31b9e89c43038060f532a268b51dbc50005c3b944ecce25") true
   syntaxMay_holds (fun _ h=>by cases h) (by kernel_rfl) (fun _ h=>by cases h) syntaxMay_row_tie rfl ⟨rfl,rfl⟩ (by kernel_rfl) rfl
   (fun f fn hf hfn=>by
     obtain rfl : f = 3 := Option.some.inj ((show Tryz.prog.funcNamed "transputer/transputerlaw11.SyntaxMay" = some 3 by kernel_rfl).symm.trans hf) |>.symm
     obtain rfl:fn=Tryz.f3:=(Option.some.inj (Tryz.func3.symm.trans hfn)).symm
     exact⟨by kernel_rfl,fun j t ht=>by
       rw[Tryz.params3] at ht
       match j,ht with
       | 0,ht=>cases ht;exact(show Tryz.prog.wantsStandIn 45=false by kernel_rfl)
       | j+1,ht=>simp at ht⟩)
   (by kernel_rfl)
end Go.Proofs.YtcfemegngeijcaaGreatDoor

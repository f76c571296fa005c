/- What Print of package syntax gives is parsed as the process it was, and its rows are valid; where it gives an error, the process is not valid, or too long: the row's statement, for any process, with its conditions. -/
import Derived.Test.YtkemgjnejlkkcaaGreatDoorLBackY8
set_option maxRecDepth 100000
set_option maxHeartbeats 2000000
namespace Go.Proofs.YtkemgjnejlkkcaaGreatDoor
section
open Go Go.Eng Go.RowKit Go.ChangeShapes Go.WideShapes Go.ChangeAt Go.Joins
theorem syntaxBack_lifted (os:Os) (started:os.Started) (H:Type) (enc:TypeId × Value->H) :
 ReturnsInHanded {} Tryz.checked os 5 .any (fun w args=>(Rows.syntaxBackSpec.pre enc Tryz.prog Tryz.f5 [] false w args/\laidMet Tryz.prog b2v w)/\sizedMet enc Tryz.prog Tryz.f5 (OpenSpec.ofChange Rows.syntaxBackSpec) false w args)
  (Rows.syntaxBackSpec.post enc Tryz.prog Tryz.f5 false true false false):=by
 refine a5C (C:=Tryz.checked) Tryz.own started (by kernel_rfl) Tryz.func5
  (ChangeSpec.witness_at (enc:=enc) (C:=Tryz.checked) (os:=os) (X:=fun w _=>laidMet Tryz.prog b2v w) false (b2o os) #[.agg #[.int .u8 0,.string ⟨#[]⟩,.int .u8 0,.int .u8 0,.int .u8 0,.int .i32 0,.string ⟨#[]⟩,.slice none 0 0,.slice none 0 0,.slice none 0 0,.string ⟨#[]⟩,.int .u8 0,.int .u8 0,.int .u8 0,.int .i32 0,.string ⟨#[]⟩,.slice none 0 0,.int .u8 0,.int .u8 0,.int .u8 0,.int .i32 0,.string ⟨#[]⟩,.slice none 0 0,.slice none 0 0,.slice none 0 0,.slice none 0 0,.int .u8 0,.int .u8 0,.int .i64 0,.int .u8 0,.string ⟨#[]⟩,.slice none 0 0,.int .u8 0,.int .u8 0,.int .u8 0,.int .i32 0,.string ⟨#[]⟩,.slice none 0 0,.bool false,.slice none 0 0,.slice none 0 0,.slice none 0 0]] 8 rfl (by kernel_rfl) (by kernel_rfl) (by kernel_rfl) (by kernel_rfl) (by kernel_rfl) (b1N os _)) ?_
 intro W base args ds gs before hval hW hsz hL hsh;have hg:=c7b hL hsh;have hp:=c9q hL;refine c2p (C:=Tryz.checked) Tryz.laidOut (by kernel_rfl) rfl rfl uu4 (fun ds hd=>?_) hW ?_
 ·match ds,hd with
  | [d0],_=>rfl
 ·obtain⟨p,q,hA,hV,rfl,-,-⟩:=hW
  obtain⟨rfl,rfl⟩:=trodVars_none (show DataW.TrodVars enc Tryz.prog W (fun _=>true) [] gs q from hV);rw[show Tryz.checked.prog=Tryz.prog from rfl,Tryz.params5] at hA hsz;obtain⟨v0,d0,rfl,rfl,h0⟩:=trodAll_one hA;obtain⟨p0,rfl,hP0⟩:=c8Y (hval 0 52 v0 rfl rfl) h0 (fun q hq=>by simpa using List.all_eq_true.1 hsz q (DataW.weights_mem_each (j:=0) (t:=52) rfl rfl q hq));exact c3n hg hp p0 _ hP0
theorem b1Q:mapsRowed Tryz.prog=true:=by kernel_rfl
theorem b0F:Tryz.prog.inPlace 5=Rows.syntaxBackRow.inPlace:=by kernel_rfl
theorem b0Q:Tryz.prog.unfollowed 5=Rows.syntaxBackRow.unfollowed:=by kernel_rfl
theorem b0w:Tryz.prog.recurses 5=Rows.syntaxBackRow.recurses:=by kernel_rfl
theorem b0u:Tryz.prog.varsNamed 5=Rows.syntaxBackRow.named:=by kernel_rfl
theorem a7v:joinedFacts Tryz.prog 5 Tryz.f5 Rows.syntaxBackSpec Rows.syntaxBackRow=true:=by
 unfold joinedFacts;rw[Tryz.laidOut,b1Q,b0F,b0Q,b0w,b0u];kernel_rfl
theorem syntaxBack_holds:Rows.SyntaxBackSaid:=
 OpenClaim.holds_of_wide 5 Tryz.f5 rfl rfl rfl rfl rfl rfl rfl ⟨rfl,rfl,rfl,rfl,rfl⟩ rfl rfl rfl rfl rfl (by kernel_rfl) Tryz.func5 a7v
  (of_decide_eq_true (by kernel_rfl)) (by unfold Func.isWrapper;rw[if_neg (by decide +kernel)];exact⟨rfl,rfl⟩)
  (fun os started H enc _=>syntaxBack_lifted os started H enc)
theorem syntaxBack_card:Rows.SyntaxBackCardSaid:=
 Claim7.holds_tied_plain_at .later [] [.data, .data, .data, .data, .data, .data, .data, .data, .pinned] true (true, "ac9949cc4afaaf0b28653aa4ea51f0bda24b894f1e78237bf150cee932f1ef7d") true
  syntaxBack_holds (fun _ h=>by cases h) (by kernel_rfl) (fun _ h=>by cases h) syntaxBack_row_tie rfl ⟨rfl,rfl⟩ (by kernel_rfl) rfl
  (fun f fn hf hfn=>by
   obtain rfl : f = 5 := Option.some.inj ((show Tryz.prog.funcNamed "transputer/transputerlaw11.SyntaxBack" = some 5 by kernel_rfl).symm.trans hf) |>.symm
   obtain rfl:fn=Tryz.f5:=(Option.some.inj (Tryz.func5.symm.trans hfn)).symm;exact⟨by kernel_rfl,fun j t ht=>by
    rw[Tryz.params5] at ht;match j,ht with
    | 0,ht=>cases ht;exact(show Tryz.prog.wantsStandIn 52=false by kernel_rfl)
    | j+1,ht=>simp at ht⟩)
  (by kernel_rfl)
end
end Go.Proofs.YtkemgjnejlkkcaaGreatDoor

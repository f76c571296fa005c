/- What Parse of package syntax returns is valid; if it can be printed, its rows are as many as before, at the same depths, and parsed as the same process: the row's statement, for any rows, with its conditions. -/
import Derived.Test.YtkemgjnejlkkcaaGreatDoorLAgainY8
set_option maxRecDepth 100000
set_option maxHeartbeats 2000000
namespace Go.Proofs.YtkemgjnejlkkcaaGreatDoor
section
open Go Go.Eng Go.RowKit Go.ChangeShapes Go.WideShapes Go.ChangeAt Go.Joins
theorem syntaxAgain_lifted (os:Os) (started:os.Started) (H:Type) (enc:TypeId × Value->H) :
 ReturnsInHanded {} Tryz.checked os 6 .any (fun w args=>(Rows.syntaxAgainSpec.pre enc Tryz.prog Tryz.f6 [] false w args/\laidMet Tryz.prog b3s w)/\sizedMet enc Tryz.prog Tryz.f6 (OpenSpec.ofChange Rows.syntaxAgainSpec) false w args)
  (Rows.syntaxAgainSpec.post enc Tryz.prog Tryz.f6 false true false false):=by
 refine a5U (C:=Tryz.checked) Tryz.own started (by kernel_rfl) Tryz.func6
  (ChangeSpec.witness_at (enc:=enc) (C:=Tryz.checked) (os:=os) (X:=fun w _=>laidMet Tryz.prog b3s w) false (b3p os) #[.slice none 0 0] 8 rfl (by kernel_rfl) (by kernel_rfl) (by kernel_rfl) (by kernel_rfl) (by kernel_rfl) (b2G os _)) ?_
 intro W base args ds gs before hval hW hsz hL hsh;have hg:=c8g hL hsh;have hp:=d0L hL;refine c5p (C:=Tryz.checked) Tryz.laidOut (by kernel_rfl) rfl rfl uu4 (fun ds hd=>?_) hW ?_
 ·match ds,hd with
  | [d0],_=>rfl
 ·obtain⟨p,q,hA,hV,rfl,-,-⟩:=hW
  obtain⟨rfl,rfl⟩:=trodVars_none (show DataW.TrodVars enc Tryz.prog W (fun _=>true) [] gs q from hV);rw[show Tryz.checked.prog=Tryz.prog from rfl,Tryz.params6] at hA hsz;obtain⟨v0,d0,rfl,rfl,h0⟩:=trodAll_one hA;obtain⟨a0,k0,c0,l0,rfl,hR0,hB0,hk0⟩:=c6L (hval 0 22 v0 rfl rfl) h0 (fun q hq=>by simpa using List.all_eq_true.1 hsz q (DataW.weights_mem_each (j:=0) (t:=22) rfl rfl q hq));exact c1Q hg hp a0 k0 c0 l0 _ hR0 hB0 hk0
theorem b1y:mapsRowed Tryz.prog=true:=by kernel_rfl
theorem b0e:Tryz.prog.inPlace 6=Rows.syntaxAgainRow.inPlace:=by kernel_rfl
theorem b0d:Tryz.prog.unfollowed 6=Rows.syntaxAgainRow.unfollowed:=by kernel_rfl
theorem b07:Tryz.prog.recurses 6=Rows.syntaxAgainRow.recurses:=by kernel_rfl
theorem b0a:Tryz.prog.varsNamed 6=Rows.syntaxAgainRow.named:=by kernel_rfl
theorem a7D:joinedFacts Tryz.prog 6 Tryz.f6 Rows.syntaxAgainSpec Rows.syntaxAgainRow=true:=by
 unfold joinedFacts;rw[Tryz.laidOut,b1y,b0e,b0d,b07,b0a];kernel_rfl
theorem syntaxAgain_holds:Rows.SyntaxAgainSaid:=
 OpenClaim.holds_of_wide 6 Tryz.f6 rfl rfl rfl rfl rfl rfl rfl ⟨rfl,rfl,rfl,rfl,rfl⟩ rfl rfl rfl rfl rfl (by kernel_rfl) Tryz.func6 a7D
  (of_decide_eq_true (by kernel_rfl)) (by unfold Func.isWrapper;rw[if_neg (by decide +kernel)];exact⟨rfl,rfl⟩)
  (fun os started H enc _=>syntaxAgain_lifted os started H enc)
theorem syntaxAgain_card:Rows.SyntaxAgainCardSaid:=
 Claim7.holds_tied_plain_at .later [] [.data, .data, .data, .data, .data, .data, .data, .data, .pinned] true (true, "ac9949cc4afaaf0b28653aa4ea51f0bda24b894f1e78237bf150cee932f1ef7d") true
  syntaxAgain_holds (fun _ h=>by cases h) (by kernel_rfl) (fun _ h=>by cases h) syntaxAgain_row_tie rfl ⟨rfl,rfl⟩ (by kernel_rfl) rfl
  (fun f fn hf hfn=>by
   obtain rfl : f = 6 := Option.some.inj ((show Tryz.prog.funcNamed "transputer/transputerlaw11.SyntaxAgain" = some 6 by kernel_rfl).symm.trans hf) |>.symm
   obtain rfl:fn=Tryz.f6:=(Option.some.inj (Tryz.func6.symm.trans hfn)).symm;exact⟨by kernel_rfl,fun j t ht=>by
    rw[Tryz.params6] at ht;match j,ht with
    | 0,ht=>cases ht;exact(show Tryz.prog.wantsStandIn 22=false by kernel_rfl)
    | j+1,ht=>simp at ht⟩)
  (by kernel_rfl)
end
end Go.Proofs.YtkemgjnejlkkcaaGreatDoor

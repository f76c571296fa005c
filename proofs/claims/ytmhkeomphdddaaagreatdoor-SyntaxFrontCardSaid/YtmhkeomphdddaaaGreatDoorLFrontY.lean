/- An error at a row does not depend on the rows behind it, and the rows before it alone are a process, or incomplete: the row's statement, for any rows, with its conditions. -/
import Derived.Test.YtmhkeomphdddaaaGreatDoorLFrontY7
set_option maxRecDepth 100000
set_option maxHeartbeats 2000000
namespace Go.Proofs.YtmhkeomphdddaaaGreatDoor
section
open Go Go.Eng Go.RowKit Go.ChangeShapes Go.WideShapes Go.ChangeAt Go.Joins
theorem syntaxFront_lifted (os:Os) (started:os.Started) (H:Type) (enc:TypeId × Value->H) :
 ReturnsInHanded {} Tryz.checked os 3 .any (fun w args=>(Rows.syntaxFrontSpec.pre enc Tryz.prog Tryz.f3 [] false w args/\laidMet Tryz.prog b0p w)/\sizedMet enc Tryz.prog Tryz.f3 (OpenSpec.ofChange Rows.syntaxFrontSpec) false w args)
  (Rows.syntaxFrontSpec.post enc Tryz.prog Tryz.f3 false true false false):=by
 refine a4l (C:=Tryz.checked) Tryz.own started (by kernel_rfl) Tryz.func3
  (ChangeSpec.witness_at (enc:=enc) (C:=Tryz.checked) (os:=os) (X:=fun w _=>laidMet Tryz.prog b0p w) false (b05 os) #[.slice none 0 0,.slice none 0 0] 8 rfl (by kernel_rfl) (by kernel_rfl) (by kernel_rfl) (by kernel_rfl) (by kernel_rfl) (a9T os _)) ?_
 intro W base args ds gs before hval hW hsz hL hsh;have hg:=c3n hL hsh;have hp:=c5r hL;refine b9c (C:=Tryz.checked) Tryz.laidOut (by kernel_rfl) rfl rfl uu4 (fun ds hd=>?_) hW ?_
 ·match ds,hd with
  | [d0,d1],_=>rfl
 ·obtain⟨p,q,hA,hV,rfl,-,-⟩:=hW
  obtain⟨rfl,rfl⟩:=trodVars_none (show DataW.TrodVars enc Tryz.prog W (fun _=>true) [] gs q from hV);rw[show Tryz.checked.prog=Tryz.prog from rfl,Tryz.params3] at hA hsz;obtain⟨v0,v1,d0,d1,p0,p1,rfl,rfl,rfl,h0,h1⟩:=trodAll_two hA;obtain⟨a0,k0,c0,l0,rfl,hR0,hB0,hk0⟩:=b6J (hval 0 22 v0 rfl rfl) h0 (fun q hq=>by simpa using List.all_eq_true.1 hsz q (DataW.weights_mem_each (j:=0) (t:=22) rfl rfl q hq));obtain⟨a1,k1,c1,l1,rfl,hR1,hB1,hk1⟩:=b6J (hval 1 22 v1 rfl rfl) h1 (fun q hq=>by simpa using List.all_eq_true.1 hsz q (DataW.weights_mem_each (j:=1) (t:=22) rfl rfl q hq));exact b8E hg hp a0 k0 c0 l0 a1 k1 c1 l1 _ hR0 hB0 hk0 hR1 hB1 hk1
theorem a8w:mapsRowed Tryz.prog=true:=by kernel_rfl
theorem a7C:Tryz.prog.inPlace 3=Rows.syntaxFrontRow.inPlace:=by kernel_rfl
theorem a7B:Tryz.prog.unfollowed 3=Rows.syntaxFrontRow.unfollowed:=by kernel_rfl
theorem a7F:Tryz.prog.recurses 3=Rows.syntaxFrontRow.recurses:=by kernel_rfl
theorem a7v:Tryz.prog.varsNamed 3=Rows.syntaxFrontRow.named:=by kernel_rfl
theorem a5J:joinedFacts Tryz.prog 3 Tryz.f3 Rows.syntaxFrontSpec Rows.syntaxFrontRow=true:=by
 unfold joinedFacts;rw[Tryz.laidOut,a8w,a7C,a7B,a7F,a7v];kernel_rfl
theorem syntaxFront_holds:Rows.SyntaxFrontSaid:=
 OpenClaim.holds_of_wide 3 Tryz.f3 rfl rfl rfl rfl rfl rfl rfl ⟨rfl,rfl,rfl,rfl,rfl⟩ rfl rfl rfl rfl rfl (by kernel_rfl) Tryz.func3 a5J
  (of_decide_eq_true (by kernel_rfl)) (by unfold Func.isWrapper;rw[if_neg (by decide +kernel)];exact⟨rfl,rfl⟩)
  (fun os started H enc _=>syntaxFront_lifted os started H enc)
theorem syntaxFront_card:Rows.SyntaxFrontCardSaid:=
 Claim7.holds_tied_plain_at .later [] [.data, .data, .data, .data, .data, .data, .data, .data, .pinned] true (true, "b23a7e0c47619dfc80f2088008ddffe0ae745e204b15b27a101322845983d43d") true
  syntaxFront_holds (fun _ h=>by cases h) (by kernel_rfl) (fun _ h=>by cases h) syntaxFront_row_tie rfl ⟨rfl,rfl⟩ (by kernel_rfl) rfl
  (fun f fn hf hfn=>by
   obtain rfl : f = 3 := Option.some.inj ((show Tryz.prog.funcNamed "transputer/transputerlaw11.SyntaxFront" = some 3 by kernel_rfl).symm.trans hf) |>.symm
   obtain rfl:fn=Tryz.f3:=(Option.some.inj (Tryz.func3.symm.trans hfn)).symm;exact⟨by kernel_rfl,fun j t ht=>by
    rw[Tryz.params3] at ht;match j,ht with
    | 0,ht=>cases ht;exact(show Tryz.prog.wantsStandIn 22=false by kernel_rfl)
    | 1,ht=>cases ht;exact(show Tryz.prog.wantsStandIn 22=false by kernel_rfl)
    | j+2,ht=>simp at ht⟩)
  (by kernel_rfl)
end
end Go.Proofs.YtmhkeomphdddaaaGreatDoor

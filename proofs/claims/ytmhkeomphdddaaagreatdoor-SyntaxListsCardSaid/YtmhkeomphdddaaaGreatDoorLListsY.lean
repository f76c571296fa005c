/- Lists are accepted by Parse up to their limits: the row's statement, for 1 to 20 elements, with its conditions. -/
import Derived.Test.YtmhkeomphdddaaaGreatDoorLListsY7
set_option maxRecDepth 100000
set_option maxHeartbeats 2000000
namespace Go.Proofs.YtmhkeomphdddaaaGreatDoor
section
open Go Go.Eng Go.RowKit Go.ChangeShapes Go.WideShapes Go.ChangeAt Go.Joins
theorem syntaxLists_lifted (os:Os) (started:os.Started) (H:Type) (enc:TypeId × Value->H) :
 ReturnsInHanded {} Tryz.checked os 4 .any (fun w args=>(Rows.syntaxListsSpec.pre enc Tryz.prog Tryz.f4 [] false w args/\laidMet Tryz.prog a8v w)/\sizedMet enc Tryz.prog Tryz.f4 (OpenSpec.ofChange Rows.syntaxListsSpec) false w args)
  (Rows.syntaxListsSpec.post enc Tryz.prog Tryz.f4 false true false false):=by
 refine a3j (C:=Tryz.checked) Tryz.own started (by kernel_rfl) Tryz.func4
  (ChangeSpec.witness_at (enc:=enc) (C:=Tryz.checked) (os:=os) (X:=fun w _=>laidMet Tryz.prog a8v w) false (a8W os) #[.int .u8 0] 8 rfl (by kernel_rfl) (by kernel_rfl) (by kernel_rfl) (by kernel_rfl) (by kernel_rfl) (a8a os _)) ?_
 intro W base args ds gs before hval hW hsz hL hsh;have hg:=c0a hL hsh;have hp:=c2s hL;refine b8D (C:=Tryz.checked) Tryz.laidOut (by kernel_rfl) rfl rfl uu4 (fun ds hd=>?_) hW ?_
 ·match ds,hd with
  | [d0],_=>rfl
 ·obtain⟨p,q,hA,hV,rfl,-,-⟩:=hW
  obtain⟨rfl,rfl⟩:=trodVars_none (show DataW.TrodVars enc Tryz.prog W (fun _=>true) [] gs q from hV);rw[show Tryz.checked.prog=Tryz.prog from rfl,Tryz.params4] at hA hsz;obtain⟨v0,d0,rfl,rfl,h0⟩:=trodAll_one hA;obtain⟨v,rfl,rfl,rfl,wv0⟩:=open_int uu5 (hval 0 5 v0 rfl rfl) h0;have wv0:0<=v/\v<=255:=by simpa [Lit.wf,show IntKind.u8.min=0 from rfl,show IntKind.u8.max=255 from rfl] using wv0
  obtain⟨w0,rfl⟩:∃ n:Nat,v=n:=⟨v.toNat,by omega⟩;exact b4f hg hp w0 (by omega) _
theorem a7v:mapsRowed Tryz.prog=true:=by kernel_rfl
theorem a6f:Tryz.prog.inPlace 4=Rows.syntaxListsRow.inPlace:=by kernel_rfl
theorem a6h:Tryz.prog.unfollowed 4=Rows.syntaxListsRow.unfollowed:=by kernel_rfl
theorem a6i:Tryz.prog.recurses 4=Rows.syntaxListsRow.recurses:=by kernel_rfl
theorem a6e:Tryz.prog.varsNamed 4=Rows.syntaxListsRow.named:=by kernel_rfl
theorem a4j:joinedFacts Tryz.prog 4 Tryz.f4 Rows.syntaxListsSpec Rows.syntaxListsRow=true:=by
 unfold joinedFacts;rw[Tryz.laidOut,a7v,a6f,a6h,a6i,a6e];kernel_rfl
theorem syntaxLists_holds:Rows.SyntaxListsSaid:=
 OpenClaim.holds_of_wide 4 Tryz.f4 rfl rfl rfl rfl rfl rfl rfl ⟨rfl,rfl,rfl,rfl,rfl⟩ rfl rfl rfl rfl rfl (by kernel_rfl) Tryz.func4 a4j
  (of_decide_eq_true (by kernel_rfl)) (by unfold Func.isWrapper;rw[if_neg (by decide +kernel)];exact⟨rfl,rfl⟩)
  (fun os started H enc _=>syntaxLists_lifted os started H enc)
theorem syntaxLists_card:Rows.SyntaxListsCardSaid:=
 Claim7.holds_tied_plain_at .later [] [.data, .data, .data, .data, .data, .data, .data, .data, .pinned] true (true, "b23a7e0c47619dfc80f2088008ddffe0ae745e204b15b27a101322845983d43d") true
  syntaxLists_holds (fun _ h=>by cases h) (by kernel_rfl) (fun _ h=>by cases h) syntaxLists_row_tie rfl ⟨rfl,rfl⟩ (by kernel_rfl) rfl
  (fun f fn hf hfn=>by
   obtain rfl : f = 4 := Option.some.inj ((show Tryz.prog.funcNamed "transputer/transputerlaw11.SyntaxLists" = some 4 by kernel_rfl).symm.trans hf) |>.symm
   obtain rfl:fn=Tryz.f4:=(Option.some.inj (Tryz.func4.symm.trans hfn)).symm;exact⟨by kernel_rfl,fun j t ht=>by
    rw[Tryz.params4] at ht;match j,ht with
    | 0,ht=>cases ht;exact(show Tryz.prog.wantsStandIn 5=false by kernel_rfl)
    | j+1,ht=>simp at ht⟩)
  (by kernel_rfl)
end
end Go.Proofs.YtmhkeomphdddaaaGreatDoor

import Derived.Test.YtgcjpahhljmlmaaGreatDoorLParsesY9
set_option maxRecDepth 100000
set_option maxHeartbeats 4000000
namespace Go.Proofs.YtgcjpahhljmlmaaGreatDoor
open Go.Proofs.Tryz
section
open Go Go.Eng Go.RowKit Go.ChangeShapes Go.WideShapes Go.ChangeAt Go.Joins
theorem syntaxParses_lifted(os:Os)(started:os.Started)(H:Type)(enc:TypeId×Value->H) :
 ReturnsInHanded {} Tryz.checked os 3 .any (λw args=>(Rows.syntaxParsesSpec.pre enc prog Tryz.f3 [] false w args/\laidMet prog b2g w)/\sizedMet enc prog Tryz.f3 (OpenSpec.ofChange Rows.syntaxParsesSpec) false w args)
  (Rows.syntaxParsesSpec.post enc prog Tryz.f3 false true false false):=by
 refine a5n (C:=Tryz.checked) Tryz.own started (by kernel_rfl) func3
  (ChangeSpec.witness_at (enc:=enc) (C:=Tryz.checked) (os:=os) (X:=λw _=>laidMet prog b2g w) false (b1A os) #[.slice none 0 0] 8 rfl (by kernel_rfl) (by kernel_rfl) (by kernel_rfl) (by kernel_rfl) (by kernel_rfl) (b0U os _)) ?_
 intro W base args ds gs before hval hW hsz hL hsh;have hg:=c6l hL hsh;have hp:=c7h hL;refine c3n (C:=Tryz.checked) Tryz.laidOut (by kernel_rfl) rfl rfl uu4 (λds hd=>?_) hW ?_
 ·match ds,hd with
  | [d0],_=>rfl
 ·obtain⟨p,q,hA,hV,rfl,-,-⟩:=hW
  obtain⟨rfl,rfl⟩:=trodVars_none (show DataW.TrodVars enc prog W (λ_=>true) [] gs q from hV);rw[show Tryz.checked.prog=prog from rfl,Tryz.params3]at hA hsz;obtain⟨v0,d0,rfl,rfl,h0⟩:=trodAll_one hA;obtain⟨a0,k0,c0,l0,rfl,hR0,hB0,hk0⟩:=c4w (hval 0 22 v0 rfl rfl) h0 (λq hq=>by simpa using zc.1 hsz q (DataW.weights_mem_each (j:=0) (t:=22) rfl rfl q hq));exact b5M hg hp a0 k0 c0 l0 _ hR0 hB0 hk0
theorem a8w:mapsRowed prog=true:=by kernel_rfl
theorem a7I:Tryz.prog.inPlace 3=Rows.syntaxParsesRow.inPlace:=by kernel_rfl
theorem a7x:Tryz.prog.unfollowed 3=Rows.syntaxParsesRow.unfollowed:=by kernel_rfl
theorem a8a:Tryz.prog.recurses 3=Rows.syntaxParsesRow.recurses:=by kernel_rfl
theorem a7H:Tryz.prog.varsNamed 3=Rows.syntaxParsesRow.named:=by kernel_rfl
theorem a6c:joinedFacts prog 3 Tryz.f3 Rows.syntaxParsesSpec Rows.syntaxParsesRow=true:=by unfold joinedFacts;rw[Tryz.laidOut,a8w,a7I,a7x,a8a,a7H];kernel_rfl
theorem syntaxParses_holds:Rows.SyntaxParsesSaid:=
 OpenClaim.holds_of_wide 3 Tryz.f3 rfl rfl rfl rfl rfl rfl rfl ⟨rfl,rfl,rfl,rfl,rfl⟩ rfl rfl rfl rfl rfl (by kernel_rfl) func3 a6c
  (zq (by kernel_rfl)) (by unfold Func.isWrapper;rw[if_neg (by decide +kernel)];exact⟨rfl,rfl⟩)
  (λos started H enc _=>syntaxParses_lifted os started H enc)
end
end Go.Proofs.YtgcjpahhljmlmaaGreatDoor

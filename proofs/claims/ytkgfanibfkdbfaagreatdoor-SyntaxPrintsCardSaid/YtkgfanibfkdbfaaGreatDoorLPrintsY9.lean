import Derived.Test.YtkgfanibfkdbfaaGreatDoorLPrintsY8
set_option maxRecDepth 100000
set_option maxHeartbeats 4000000
namespace Go.Proofs.YtkgfanibfkdbfaaGreatDoor
open Go.Proofs.Tryz
section
open Go Go.Eng Go.RowKit Go.ChangeShapes Go.WideShapes Go.ChangeAt Go.Joins
theorem syntaxPrints_lifted(os:Os)(started:os.Started)(H:Type)(enc:TypeId×Value->H) :
 ReturnsInHanded {} Tryz.checked os 3 .any (λw args=>(Rows.syntaxPrintsSpec.pre enc prog Tryz.f3 [] false w args/\laidMet prog b1i w)/\sizedMet enc prog Tryz.f3 (OpenSpec.ofChange Rows.syntaxPrintsSpec) false w args)
  (Rows.syntaxPrintsSpec.post enc prog Tryz.f3 false true false false):=by
 refine a5e (C:=Tryz.checked) Tryz.own started (by kernel_rfl) func3
  (ChangeSpec.witness_at (enc:=enc) (C:=Tryz.checked) (os:=os) (X:=λw _=>laidMet prog b1i w) false (b1K os) #[.agg #[.int .u8 0,.string ⟨#[]⟩,.int .u8 0,.int .u8 0,.int .u8 0,.int .i32 0,.string ⟨#[]⟩,.slice none 0 0,.slice none 0 0,.slice none 0 0,.string ⟨#[]⟩,.int .u8 0,.int .u8 0,.int .u8 0,.int .i32 0,.string ⟨#[]⟩,.slice none 0 0,.int .u8 0,.int .u8 0,.int .u8 0,.int .i32 0,.string ⟨#[]⟩,.slice none 0 0,.slice none 0 0,.slice none 0 0,.slice none 0 0,.int .u8 0,.int .u8 0,.int .i64 0,.int .u8 0,.string ⟨#[]⟩,.slice none 0 0,.int .u8 0,.int .u8 0,.int .u8 0,.int .i32 0,.string ⟨#[]⟩,.slice none 0 0,.bool false,.slice none 0 0,.slice none 0 0,.slice none 0 0]] 8 rfl (by kernel_rfl) (by kernel_rfl) (by kernel_rfl) (by kernel_rfl) (by kernel_rfl) (b0S os _)) ?_
 intro W base args ds gs before hval hW hsz hL hsh;have hg:=c4P hL hsh;have hp:=c7L hL;refine c2F (C:=Tryz.checked) Tryz.laidOut (by kernel_rfl) rfl rfl uu4 (λds hd=>?_) hW ?_
 ·match ds,hd with
  | [d0],_=>rfl
 ·obtain⟨p,q,hA,hV,rfl,-,-⟩:=hW
  obtain⟨rfl,rfl⟩:=trodVars_none (show DataW.TrodVars enc prog W (λ_=>true) [] gs q from hV);rw[show Tryz.checked.prog=prog from rfl,Tryz.params3]at hA hsz;obtain⟨v0,d0,rfl,rfl,h0⟩:=trodAll_one hA;obtain⟨p0,rfl,hP0⟩:=c7g (hval 0 45 v0 rfl rfl) h0 (λq hq=>by simpa using List.all_eq_true.1 hsz q (DataW.weights_mem_each (j:=0) (t:=45) rfl rfl q hq));exact b6Y hg hp p0 _ hP0
theorem a8F:mapsRowed prog=true:=by kernel_rfl
theorem a7P:Tryz.prog.inPlace 3=Rows.syntaxPrintsRow.inPlace:=by kernel_rfl
theorem a7Q:Tryz.prog.unfollowed 3=Rows.syntaxPrintsRow.unfollowed:=by kernel_rfl
theorem a7N:Tryz.prog.recurses 3=Rows.syntaxPrintsRow.recurses:=by kernel_rfl
theorem a7I:Tryz.prog.varsNamed 3=Rows.syntaxPrintsRow.named:=by kernel_rfl
theorem a6k:joinedFacts prog 3 Tryz.f3 Rows.syntaxPrintsSpec Rows.syntaxPrintsRow=true:=by unfold joinedFacts;rw[Tryz.laidOut,a8F,a7P,a7Q,a7N,a7I];kernel_rfl
theorem syntaxPrints_holds:Rows.SyntaxPrintsSaid:=
 OpenClaim.holds_of_wide 3 Tryz.f3 rfl rfl rfl rfl rfl rfl rfl ⟨rfl,rfl,rfl,rfl,rfl⟩ rfl rfl rfl rfl rfl (by kernel_rfl) func3 a6k
  (of_decide_eq_true (by kernel_rfl)) (by unfold Func.isWrapper;rw[if_neg (by decide +kernel)];exact⟨rfl,rfl⟩)
  (λos started H enc _=>syntaxPrints_lifted os started H enc)
end
end Go.Proofs.YtkgfanibfkdbfaaGreatDoor

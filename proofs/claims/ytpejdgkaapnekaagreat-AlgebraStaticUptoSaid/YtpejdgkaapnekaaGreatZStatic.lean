/- Algebra.Static (the dimensions and attributes of results, and errors, are those for arrays without cells), for each reader, each finite reading of its tree and each bulk of at most 1048576, answers as the row AlgebraStaticUpto says; conditions: the checked reading of the program, bulk at most 1048576. -/
import Derived.Test.YtpejdgkaapnekaaGreatKP39
import Derived.Test.YtpejdgkaapnekaaGreatKZFStatic
set_option linter.unusedVariables false
set_option linter.unusedSimpArgs false
set_option maxHeartbeats 1000000
namespace Go.Proofs.YtpejdgkaapnekaaGreat
open Go Go.Abs
open Go.ChangeShapes Go.WideShapes Go.ChangeAt Go.RowKit
set_option maxRecDepth 100000 in
theorem static_lifted(os:Os)(started:os.Started)(H:Type)(en:TypeId×Value→H)(F:Stop.Interp) :
  ReturnsInHanded {} Tryz.checked os 17 .any ((Rows.OpenSpec.upto Rows.algebraStaticSpec).pre6 en Tryz.prog Tryz.f17 Rows.algebraStaticUptoRow.domain false) (((Rows.OpenSpec.upto Rows.algebraStaticSpec).at F).post en Tryz.prog Tryz.f17 false true false false):=by
 refine returnsInHanded_of_cond (C:=Tryz.checked) (s:=Rows.OpenSpec.upto Rows.algebraStaticSpec) (k:=Rows.uptoSmall) rfl own started (by kernel_rfl) Tryz.func17
  (OpenSpec.witness (enc:=en) (C:=Tryz.checked) (s:=Rows.OpenSpec.upto Rows.algebraStaticSpec) (k:=Rows.uptoSmall) rfl false ⟨#[],#[.agg #[.slice none 0 0,.slice none 0 0,.slice none 0 0],.agg #[.slice none 0 0,.slice none 0 0,.slice none 0 0],.slice none 0 0,.slice none 0 0,.agg #[.int .i64 0,.string ⟨#[]⟩,.int .i64 0,.int .i64 0,.int .i64 0,.string ⟨#[]⟩,.slice none 0 0],.slice none 0 0,.slice none 0 0],[]⟩ 8 (by kernel_rfl) (by kernel_rfl) (by kernel_rfl)
   (x:=([.agg [.nil,.nil,.nil],.agg [.nil,.nil,.nil],.nil,.nil,.agg [.lit (.int .i64 0),.lit (.string []),.agg [.lit (.int .i64 0),.lit (.int .i64 0),.lit (.int .i64 0),.lit (.string [])],.nil],.nil,.nil],[],[])) (by kernel_rfl) rfl (by kernel_rfl)) ?_
 intro W base args ds gs before hval hW _ hk _
 exact wu H en W base args ds gs before hval hW hk
theorem static_over:Rows.algebraStaticUptoRow.holds Tryz.pinned (Rows.OpenSpec.upto Rows.algebraStaticSpec) :=
 OpenClaim.holds_of_cond 17 Tryz.f17 rfl rfl rfl rfl rfl rfl rfl ⟨rfl,rfl,rfl,rfl,rfl⟩ rfl rfl rfl rfl rfl CA Tryz.func17 CB
  DO DP
  (fun os started H en _ F=>static_lifted os started H en F)
theorem static_proved:Rows.AlgebraStaticUptoSaid:=static_over
end Go.Proofs.YtpejdgkaapnekaaGreat

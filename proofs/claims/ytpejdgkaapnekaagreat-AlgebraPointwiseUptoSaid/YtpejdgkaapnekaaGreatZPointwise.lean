/- Algebra.Pointwise (subarrays, filters and applied attributes, coordinate by coordinate), for each reader, each finite reading of its tree and each bulk of at most 1048576, answers as the row AlgebraPointwiseUpto says; conditions: the checked reading of the program, bulk at most 1048576. -/
import Derived.Test.YtpejdgkaapnekaaGreatWP37
import Derived.Test.YtpejdgkaapnekaaGreatWZFPointwise
set_option linter.unusedVariables false
set_option linter.unusedSimpArgs false
set_option linter.unnecessarySimpa false
set_option maxHeartbeats 1000000
namespace Go.Proofs.YtpejdgkaapnekaaGreat
open Go Go.Abs
open Go.ChangeShapes Go.WideShapes Go.ChangeAt Go.RowKit
set_option maxRecDepth 100000 in
theorem pointwise_lifted(os : Os)(started : os.Started)(H : Type)(en : TypeId×Value→H)(F : Stop.Interp) :
  ReturnsInHanded {} Tryz.checked os 11 .any ((Rows.OpenSpec.upto Rows.algebraPointwiseSpec).pre6 en Tryz.prog Tryz.f11 Rows.algebraPointwiseUptoRow.domain false) (((Rows.OpenSpec.upto Rows.algebraPointwiseSpec).at F).post en Tryz.prog Tryz.f11 false true false false):=by
 refine returnsInHanded_of_cond (C:=Tryz.checked) (s:=Rows.OpenSpec.upto Rows.algebraPointwiseSpec) (k:=Rows.uptoSmall) rfl own started (by kernel_rfl) Tryz.func11
  (OpenSpec.witness (enc:=en) (C:=Tryz.checked) (s:=Rows.OpenSpec.upto Rows.algebraPointwiseSpec) (k:=Rows.uptoSmall) rfl false ⟨#[],#[.agg #[.slice none 0 0,.slice none 0 0,.slice none 0 0],.slice none 0 0,.slice none 0 0,.agg #[.int .i64 0,.string ⟨#[]⟩,.int .i64 0,.int .i64 0,.int .i64 0,.string ⟨#[]⟩,.slice none 0 0],.slice none 0 0],[]⟩ 8 (by kernel_rfl) (by kernel_rfl) (by kernel_rfl)
   (x:=([.agg [.nil,.nil,.nil],.nil,.nil,.agg [.lit (.int .i64 0),.lit (.string []),.agg [.lit (.int .i64 0),.lit (.int .i64 0),.lit (.int .i64 0),.lit (.string [])],.nil],.nil],[],[])) (by kernel_rfl) rfl (by kernel_rfl)) ?_
 intro W base args ds gs before hval hW _ hk _
 exact pD H en W base args ds gs before hval hW hk
theorem pointwise_over : Rows.algebraPointwiseUptoRow.holds Tryz.pinned (Rows.OpenSpec.upto Rows.algebraPointwiseSpec) :=
 OpenClaim.holds_of_cond 11 Tryz.f11 rfl rfl rfl rfl rfl rfl rfl ⟨rfl,rfl,rfl,rfl,rfl⟩ rfl rfl rfl rfl rfl tb Tryz.func11 tc
  uq ur
  (fun os started H en _ F=>pointwise_lifted os started H en F)
theorem pointwise_proved : Rows.AlgebraPointwiseUptoSaid:=pointwise_over
end Go.Proofs.YtpejdgkaapnekaaGreat

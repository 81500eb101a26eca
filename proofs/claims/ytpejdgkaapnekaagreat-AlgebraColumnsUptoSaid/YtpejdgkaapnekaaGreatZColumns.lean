/- Algebra.Columns (attributes that are added, chosen and renamed, or the errors, are the document's) answers, for each reader, each finite reading of its tree and each bulk of at most 1048576, as the row AlgebraColumnsUpto says; conditions: the checked reading of the program, bulk at most 1048576. -/
import Derived.Test.YtpejdgkaapnekaaGreatXP34
import Derived.Test.YtpejdgkaapnekaaGreatXZFColumns
set_option linter.unusedVariables false
set_option linter.unusedSimpArgs false
set_option maxHeartbeats 1000000
namespace Go.Proofs.YtpejdgkaapnekaaGreat
open Go Go.Abs
open Go.ChangeShapes Go.WideShapes Go.ChangeAt Go.RowKit
set_option maxRecDepth 100000 in
theorem columns_lifted(os : Os)(started : os.Started)(H : Type)(en : TypeId×Value→H)(F : Stop.Interp) :
  ReturnsInHanded {} Tryz.checked os 14 .any ((Rows.OpenSpec.upto Rows.algebraColumnsSpec).pre6 en Tryz.prog Tryz.f14 Rows.algebraColumnsUptoRow.domain false) (((Rows.OpenSpec.upto Rows.algebraColumnsSpec).at F).post en Tryz.prog Tryz.f14 false true false false):=by
 refine returnsInHanded_of_cond (C:=Tryz.checked) (s:=Rows.OpenSpec.upto Rows.algebraColumnsSpec) (k:=Rows.uptoSmall) rfl own started (by kernel_rfl) Tryz.func14
  (OpenSpec.witness (enc:=en) (C:=Tryz.checked) (s:=Rows.OpenSpec.upto Rows.algebraColumnsSpec) (k:=Rows.uptoSmall) rfl false ⟨#[],#[.agg #[.slice none 0 0,.slice none 0 0,.slice none 0 0],.agg #[.int .i64 0,.string ⟨#[]⟩,.int .i64 0,.int .i64 0,.int .i64 0,.string ⟨#[]⟩,.slice none 0 0],.string ⟨#[]⟩,.string ⟨#[]⟩,.slice none 0 0],[]⟩ 8 (by kernel_rfl) (by kernel_rfl) (by kernel_rfl)
   (x:=([.agg [.nil,.nil,.nil],.agg [.lit (.int .i64 0),.lit (.string []),.agg [.lit (.int .i64 0),.lit (.int .i64 0),.lit (.int .i64 0),.lit (.string [])],.nil],.lit (.string []),.lit (.string []),.nil],[],[])) (by kernel_rfl) rfl (by kernel_rfl)) ?_
 intro W base args ds gs before hval hW _ hk _
 exact tA H en W base args ds gs before hval hW hk
theorem columns_over : Rows.algebraColumnsUptoRow.holds Tryz.pinned (Rows.OpenSpec.upto Rows.algebraColumnsSpec) :=
 OpenClaim.holds_of_cond 14 Tryz.f14 rfl rfl rfl rfl rfl rfl rfl ⟨rfl,rfl,rfl,rfl,rfl⟩ rfl rfl rfl rfl rfl ye Tryz.func14 yg
  zx zy
  (fun os started H en _ F=>columns_lifted os started H en F)
theorem columns_proved : Rows.AlgebraColumnsUptoSaid:=columns_over
end Go.Proofs.YtpejdgkaapnekaaGreat

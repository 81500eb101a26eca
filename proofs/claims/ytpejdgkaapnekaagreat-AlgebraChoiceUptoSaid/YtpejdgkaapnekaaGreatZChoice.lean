/- Algebra.Choice (subarrays and filters can be exchanged, a filter of a filter, a subarray of a subarray), for each reader, each finite reading of its tree and each bulk of at most 1048576, answers as the row AlgebraChoiceUpto says; conditions: the checked reading of the program, bulk at most 1048576. -/
import Derived.Test.YtpejdgkaapnekaaGreatVP36
import Derived.Test.YtpejdgkaapnekaaGreatVZFChoice
set_option linter.unusedVariables false
set_option linter.unusedSimpArgs false
set_option linter.unnecessarySimpa false
set_option maxHeartbeats 1000000
namespace Go.Proofs.YtpejdgkaapnekaaGreat
open Go Go.Abs
open Go.ChangeShapes Go.WideShapes Go.ChangeAt Go.RowKit
set_option maxRecDepth 100000 in
theorem choice_lifted(os : Os)(started : os.Started)(H : Type)(en : TypeId×Value→H)(F : Stop.Interp) :
  ReturnsInHanded {} Tryz.checked os 6 .any ((Rows.OpenSpec.upto Rows.algebraChoiceSpec).pre6 en Tryz.prog Tryz.f6 Rows.algebraChoiceUptoRow.domain false) (((Rows.OpenSpec.upto Rows.algebraChoiceSpec).at F).post en Tryz.prog Tryz.f6 false true false false):=by
 refine returnsInHanded_of_cond (C:=Tryz.checked) (s:=Rows.OpenSpec.upto Rows.algebraChoiceSpec) (k:=Rows.uptoSmall) rfl own started (by kernel_rfl) Tryz.func6
  (OpenSpec.witness (enc:=en) (C:=Tryz.checked) (s:=Rows.OpenSpec.upto Rows.algebraChoiceSpec) (k:=Rows.uptoSmall) rfl false ⟨#[],#[.agg #[.slice none 0 0,.slice none 0 0,.slice none 0 0],.slice none 0 0,.slice none 0 0,.slice none 0 0,.slice none 0 0,.agg #[.int .i64 0,.string ⟨#[]⟩,.int .i64 0,.int .i64 0,.int .i64 0,.string ⟨#[]⟩,.slice none 0 0],.agg #[.int .i64 0,.string ⟨#[]⟩,.int .i64 0,.int .i64 0,.int .i64 0,.string ⟨#[]⟩,.slice none 0 0]],[]⟩ 8 (by kernel_rfl) (by kernel_rfl) (by kernel_rfl)
   (x:=([.agg [.nil,.nil,.nil],.nil,.nil,.nil,.nil,.agg [.lit (.int .i64 0),.lit (.string []),.agg [.lit (.int .i64 0),.lit (.int .i64 0),.lit (.int .i64 0),.lit (.string [])],.nil],.agg [.lit (.int .i64 0),.lit (.string []),.agg [.lit (.int .i64 0),.lit (.int .i64 0),.lit (.int .i64 0),.lit (.string [])],.nil]],[],[])) (by kernel_rfl) rfl (by kernel_rfl)) ?_
 intro W base args ds gs before hval hW _ hk _
 exact sh H en W base args ds gs before hval hW hk
theorem choice_over : Rows.algebraChoiceUptoRow.holds Tryz.pinned (Rows.OpenSpec.upto Rows.algebraChoiceSpec) :=
 OpenClaim.holds_of_cond 6 Tryz.f6 rfl rfl rfl rfl rfl rfl rfl ⟨rfl,rfl,rfl,rfl,rfl⟩ rfl rfl rfl rfl rfl wV Tryz.func6 wW
  y0 y1
  (fun os started H en _ F=>choice_lifted os started H en F)
theorem choice_proved : Rows.AlgebraChoiceUptoSaid:=choice_over
end Go.Proofs.YtpejdgkaapnekaaGreat

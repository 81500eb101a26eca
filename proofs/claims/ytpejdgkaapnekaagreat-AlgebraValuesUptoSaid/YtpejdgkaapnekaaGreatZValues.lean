/- Algebra.Values (the value of a scalar at a cell is the document's, and so is its refusal), for each reader, each finite reading of its tree and each bulk of at most 1048576, answers as the row AlgebraValuesUpto says; conditions: the checked reading of the program, bulk at most 1048576. -/
import Derived.Test.YtpejdgkaapnekaaGreatFP39
import Derived.Test.YtpejdgkaapnekaaGreatFZF
set_option linter.unusedVariables false
set_option linter.unusedSimpArgs false
set_option maxHeartbeats 1000000
namespace Go.Proofs.YtpejdgkaapnekaaGreat
open Go Go.Abs
open Go.ChangeShapes Go.WideShapes Go.ChangeAt Go.RowKit
set_option maxRecDepth 100000 in
theorem values_lifted(os : Os)(started : os.Started)(H : Type)(en : TypeId×Value→H)(F : Stop.Interp) :
  ReturnsInHanded {} Tryz.checked os 9 .any ((Rows.OpenSpec.upto Rows.algebraValuesSpec).pre6 en Tryz.prog Tryz.f9 Rows.algebraValuesUptoRow.domain false) (((Rows.OpenSpec.upto Rows.algebraValuesSpec).at F).post en Tryz.prog Tryz.f9 false true false false):=by
 refine returnsInHanded_of_cond (C:=Tryz.checked) (s:=Rows.OpenSpec.upto Rows.algebraValuesSpec) (k:=Rows.uptoSmall) rfl own started (by kernel_rfl) Tryz.func9
  (OpenSpec.witness (enc:=en) (C:=Tryz.checked) (s:=Rows.OpenSpec.upto Rows.algebraValuesSpec) (k:=Rows.uptoSmall) rfl false ⟨#[],#[.agg #[.slice none 0 0,.slice none 0 0,.slice none 0 0],.agg #[.int .i64 0,.string ⟨#[]⟩,.int .i64 0,.int .i64 0,.int .i64 0,.string ⟨#[]⟩,.slice none 0 0],.agg #[.slice none 0 0,.slice none 0 0]],[]⟩ 8 (by kernel_rfl) (by kernel_rfl) (by kernel_rfl)
   (x:=([.agg [.nil,.nil,.nil],.agg [.lit (.int .i64 0),.lit (.string []),.agg [.lit (.int .i64 0),.lit (.int .i64 0),.lit (.int .i64 0),.lit (.string [])],.nil],.agg [.nil,.nil]],[],[])) (by kernel_rfl) rfl (by kernel_rfl)) ?_
 intro W base args ds gs before hval hW _ hk _
 exact sr H en W base args ds gs before hval hW hk
theorem values_over : Rows.algebraValuesUptoRow.holds Tryz.pinned (Rows.OpenSpec.upto Rows.algebraValuesSpec) :=
 OpenClaim.holds_of_cond 9 Tryz.f9 rfl rfl rfl rfl rfl rfl rfl ⟨rfl,rfl,rfl,rfl,rfl⟩ rfl rfl rfl rfl rfl values_named Tryz.func9 values_facts
  values_inst values_wrap
  (fun os started H en _ F=>values_lifted os started H en F)
theorem values_proved : Rows.AlgebraValuesUptoSaid:=values_over
end Go.Proofs.YtpejdgkaapnekaaGreat

/- Algebra.Joins (joins and crosses of b and a have the same cells as those of a and b; an array joined with itself has all its cells), for each reader, each finite reading of its tree and each bulk of at most 1048576, answers as the row AlgebraJoinsUpto says; conditions: the checked reading of the program, bulk at most 1048576. -/
import Derived.Test.YtpejdgkaapnekaaGreatIP29
import Derived.Test.YtpejdgkaapnekaaGreatIZFJoins
set_option linter.unusedVariables false
set_option linter.unusedSimpArgs false
set_option maxHeartbeats 1000000
namespace Go.Proofs.YtpejdgkaapnekaaGreat
open Go Go.Abs
open Go.ChangeShapes Go.WideShapes Go.ChangeAt Go.RowKit
set_option maxRecDepth 100000 in
theorem joins_lifted(os:Os)(started:os.Started)(H:Type)(en:TypeId×Value→H)(F:Stop.Interp) :
  ReturnsInHanded {} Tryz.checked os 16 .any ((Rows.OpenSpec.upto Rows.algebraJoinsSpec).pre6 en Tryz.prog Tryz.f16 Rows.algebraJoinsUptoRow.domain false) (((Rows.OpenSpec.upto Rows.algebraJoinsSpec).at F).post en Tryz.prog Tryz.f16 false true false false):=by
 refine returnsInHanded_of_cond (C:=Tryz.checked) (s:=Rows.OpenSpec.upto Rows.algebraJoinsSpec) (k:=Rows.uptoSmall) rfl own started (by kernel_rfl) Tryz.func16
  (OpenSpec.witness (enc:=en) (C:=Tryz.checked) (s:=Rows.OpenSpec.upto Rows.algebraJoinsSpec) (k:=Rows.uptoSmall) rfl false ⟨#[],#[.agg #[.slice none 0 0,.slice none 0 0,.slice none 0 0],.agg #[.slice none 0 0,.slice none 0 0,.slice none 0 0]],[]⟩ 8 (by kernel_rfl) (by kernel_rfl) (by kernel_rfl)
   (x:=([.agg [.nil,.nil,.nil],.agg [.nil,.nil,.nil]],[],[])) (by kernel_rfl) rfl (by kernel_rfl)) ?_
 intro W base args ds gs before hval hW _ hk _
 exact qX H en W base args ds gs before hval hW hk
theorem joins_over:Rows.algebraJoinsUptoRow.holds Tryz.pinned (Rows.OpenSpec.upto Rows.algebraJoinsSpec) :=
 OpenClaim.holds_of_cond 16 Tryz.f16 rfl rfl rfl rfl rfl rfl rfl ⟨rfl,rfl,rfl,rfl,rfl⟩ rfl rfl rfl rfl rfl vj Tryz.func16 vk
  xU xV
  (fun os started H en _ F=>joins_lifted os started H en F)
theorem joins_proved:Rows.AlgebraJoinsUptoSaid:=joins_over
end Go.Proofs.YtpejdgkaapnekaaGreat

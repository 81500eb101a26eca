/- Algebra.Twos (concatenations, joins, crosses and merges of two arrays, or the errors, are the document's; the arrays stay), for each reader, each finite reading of its tree and each bulk of at most 1048576, answers as the row AlgebraTwosUpto says; conditions: the checked reading of the program, bulk at most 1048576. -/
import Derived.Test.YtpejdgkaapnekaaGreatJP33
import Derived.Test.YtpejdgkaapnekaaGreatJZFTwos
set_option linter.unusedVariables false
set_option linter.unusedSimpArgs false
set_option maxHeartbeats 1000000
namespace Go.Proofs.YtpejdgkaapnekaaGreat
open Go Go.Abs
open Go.ChangeShapes Go.WideShapes Go.ChangeAt Go.RowKit
set_option maxRecDepth 100000 in
theorem twos_lifted(os : Os)(started : os.Started)(H : Type)(en : TypeId×Value→H)(F : Stop.Interp) :
  ReturnsInHanded {} Tryz.checked os 15 .any ((Rows.OpenSpec.upto Rows.algebraTwosSpec).pre6 en Tryz.prog Tryz.f15 Rows.algebraTwosUptoRow.domain false) (((Rows.OpenSpec.upto Rows.algebraTwosSpec).at F).post en Tryz.prog Tryz.f15 false true false false):=by
 refine returnsInHanded_of_cond (C:=Tryz.checked) (s:=Rows.OpenSpec.upto Rows.algebraTwosSpec) (k:=Rows.uptoSmall) rfl own started (by kernel_rfl) Tryz.func15
  (OpenSpec.witness (enc:=en) (C:=Tryz.checked) (s:=Rows.OpenSpec.upto Rows.algebraTwosSpec) (k:=Rows.uptoSmall) rfl false ⟨#[],#[.agg #[.slice none 0 0,.slice none 0 0,.slice none 0 0],.agg #[.slice none 0 0,.slice none 0 0,.slice none 0 0],.string ⟨#[]⟩],[]⟩ 8 (by kernel_rfl) (by kernel_rfl) (by kernel_rfl)
   (x:=([.agg [.nil,.nil,.nil],.agg [.nil,.nil,.nil],.lit (.string [])],[],[])) (by kernel_rfl) rfl (by kernel_rfl)) ?_
 intro W base args ds gs before hval hW _ hk _
 exact tb H en W base args ds gs before hval hW hk
theorem twos_over : Rows.algebraTwosUptoRow.holds Tryz.pinned (Rows.OpenSpec.upto Rows.algebraTwosSpec) :=
 OpenClaim.holds_of_cond 15 Tryz.f15 rfl rfl rfl rfl rfl rfl rfl ⟨rfl,rfl,rfl,rfl,rfl⟩ rfl rfl rfl rfl rfl yC Tryz.func15 yD
  zY zZ
  (fun os started H en _ F=>twos_lifted os started H en F)
theorem twos_proved : Rows.AlgebraTwosUptoSaid:=twos_over
end Go.Proofs.YtpejdgkaapnekaaGreat

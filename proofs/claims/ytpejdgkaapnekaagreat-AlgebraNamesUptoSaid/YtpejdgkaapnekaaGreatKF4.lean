import Derived.Test.YtpejdgkaapnekaaGreatPb
import Derived.Test.YtpejdgkaapnekaaGreatKE
set_option linter.unusedVariables false
set_option linter.unusedSimpArgs false

namespace Go.Proofs.YtpejdgkaapnekaaGreat
open Go Go.Abs
set_option maxRecDepth 1000000
theorem b69 : entRun Tryz.prog env cfg [] 40 e69 = true := by kernel_rfl
theorem b98 : entRun Tryz.prog env cfg [e92] 40 e98 = true := by kernel_rfl
theorem b292 : entRun Tryz.prog env cfg [] 40 e292 = true := by kernel_rfl
theorem b388 : entRun Tryz.prog env cfg [] 40 e388 = true := by kernel_rfl
theorem b392 : entRun Tryz.prog env cfg [e53, e391] 40 e392 = true := by kernel_rfl
theorem b435 : entRun Tryz.prog env cfg [] 40 e435 = true := by kernel_rfl
end Go.Proofs.YtpejdgkaapnekaaGreat

import Derived.Test.YtpejdgkaapnekaaGreatPb
import Derived.Test.YtpejdgkaapnekaaGreatKE
set_option linter.unusedVariables false
set_option linter.unusedSimpArgs false

namespace Go.Proofs.YtpejdgkaapnekaaGreat
open Go Go.Abs
set_option maxRecDepth 1000000
theorem b155 : entRun Tryz.prog env cfg [e152] 40 e155 = true := by kernel_rfl
theorem b215 : entRun Tryz.prog env cfg [] 40 e215 = true := by kernel_rfl
theorem b219 : entRun Tryz.prog env cfg [e215] 40 e219 = true := by kernel_rfl
theorem b259 : entRun Tryz.prog env cfg [e53, e151, e155, e198, e222, e152, e243, e258] 40 e259 = true := by kernel_rfl
theorem b290 : entRun Tryz.prog env cfg [] 40 e290 = true := by kernel_rfl
theorem b417 : entRun Tryz.prog env cfg [e53] 40 e417 = true := by kernel_rfl
end Go.Proofs.YtpejdgkaapnekaaGreat

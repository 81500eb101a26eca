import Derived.Test.YtpejdgkaapnekaaGreatPb
import Derived.Test.YtpejdgkaapnekaaGreatKE
set_option linter.unusedVariables false
set_option linter.unusedSimpArgs false

namespace Go.Proofs.YtpejdgkaapnekaaGreat
open Go Go.Abs
set_option maxRecDepth 1000000
theorem b136 : entRun Tryz.prog env cfg [e53] 40 e136 = true := by kernel_rfl
theorem b188 : entRun Tryz.prog env cfg [] 40 e188 = true := by kernel_rfl
theorem b222 : entRun Tryz.prog env cfg [e152, e219] 40 e222 = true := by kernel_rfl
theorem b235 : entRun Tryz.prog env cfg [] 40 e235 = true := by kernel_rfl
theorem b317 : entRun Tryz.prog env cfg [] 40 e317 = true := by kernel_rfl
theorem b436 : entRun Tryz.prog env cfg [e53, e435] 40 e436 = true := by kernel_rfl
end Go.Proofs.YtpejdgkaapnekaaGreat

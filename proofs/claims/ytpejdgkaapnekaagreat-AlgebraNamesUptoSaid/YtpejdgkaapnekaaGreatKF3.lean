import Derived.Test.YtpejdgkaapnekaaGreatPb
import Derived.Test.YtpejdgkaapnekaaGreatKE
set_option linter.unusedVariables false
set_option linter.unusedSimpArgs false

namespace Go.Proofs.YtpejdgkaapnekaaGreat
open Go Go.Abs
set_option maxRecDepth 1000000
theorem b53 : entRun Tryz.prog env cfg [] 40 e53 = true := by kernel_rfl
theorem b151 : entRun Tryz.prog env cfg [] 40 e151 = true := by kernel_rfl
theorem b152 : entRun Tryz.prog env cfg [] 40 e152 = true := by kernel_rfl
theorem b285 : entRun Tryz.prog env cfg [] 40 e285 = true := by kernel_rfl
theorem b320 : entRun Tryz.prog env cfg [e317] 40 e320 = true := by kernel_rfl
theorem b391 : entRun Tryz.prog env cfg [e388] 40 e391 = true := by kernel_rfl
end Go.Proofs.YtpejdgkaapnekaaGreat

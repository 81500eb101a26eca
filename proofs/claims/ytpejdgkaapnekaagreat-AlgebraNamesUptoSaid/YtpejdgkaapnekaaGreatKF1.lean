import Derived.Test.YtpejdgkaapnekaaGreatPb
import Derived.Test.YtpejdgkaapnekaaGreatKE
set_option linter.unusedVariables false
set_option linter.unusedSimpArgs false

namespace Go.Proofs.YtpejdgkaapnekaaGreat
open Go Go.Abs
set_option maxRecDepth 1000000
theorem b92 : entRun Tryz.prog env cfg [] 40 e92 = true := by kernel_rfl
theorem b110 : entRun Tryz.prog env cfg [] 40 e110 = true := by kernel_rfl
theorem b198 : entRun Tryz.prog env cfg [e152, e193] 40 e198 = true := by kernel_rfl
theorem b243 : entRun Tryz.prog env cfg [e235] 40 e243 = true := by kernel_rfl
theorem b321 : entRun Tryz.prog env cfg [e53, e285, e288, e290, e292, e320] 40 e321 = true := by kernel_rfl
end Go.Proofs.YtpejdgkaapnekaaGreat

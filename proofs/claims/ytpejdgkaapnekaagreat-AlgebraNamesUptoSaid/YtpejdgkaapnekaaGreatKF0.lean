import Derived.Test.YtpejdgkaapnekaaGreatPb
import Derived.Test.YtpejdgkaapnekaaGreatKE
set_option linter.unusedVariables false
set_option linter.unusedSimpArgs false

namespace Go.Proofs.YtpejdgkaapnekaaGreat
open Go Go.Abs
set_option maxRecDepth 1000000
theorem b193 : entRun Tryz.prog env cfg [e188] 40 e193 = true := by kernel_rfl
theorem b258 : entRun Tryz.prog env cfg [] 40 e258 = true := by kernel_rfl
theorem b288 : entRun Tryz.prog env cfg [] 40 e288 = true := by kernel_rfl
theorem b445 : entRun Tryz.prog env cfg [e53, e69, e98, e110, e136, e259, e321, e392, e417, e436] 40 e445 = true := by kernel_rfl
end Go.Proofs.YtpejdgkaapnekaaGreat

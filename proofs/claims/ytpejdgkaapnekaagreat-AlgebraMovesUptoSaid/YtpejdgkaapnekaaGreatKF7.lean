import Derived.Test.YtpejdgkaapnekaaGreatPb
import Derived.Test.YtpejdgkaapnekaaGreatKE
set_option linter.unusedVariables false
set_option linter.unusedSimpArgs false

namespace Go.Proofs.YtpejdgkaapnekaaGreat
open Go Go.Abs
set_option maxRecDepth 1000000
theorem b210 : entRun Tryz.prog env cfg [] 40 e210 = true := by kernel_rfl
theorem b211 : entRun Tryz.prog env cfg [e208] 40 e211 = true := by kernel_rfl
theorem b212 : entRun Tryz.prog env cfg [e210, e211, e183] 40 e212 = true := by kernel_rfl
theorem b213 : entRun Tryz.prog env cfg [e212] 40 e213 = true := by kernel_rfl
theorem b214 : entRun Tryz.prog env cfg [e213, e186] 40 e214 = true := by kernel_rfl
theorem b215 : entRun Tryz.prog env cfg [e204, e172, e205, e174, e175, e206, e209, e214] 40 e215 = true := by kernel_rfl
theorem b216 : entRun Tryz.prog env cfg [e215] 40 e216 = true := by kernel_rfl
theorem b217 : entRun Tryz.prog env cfg [e171] 40 e217 = true := by kernel_rfl
theorem b218 : entRun Tryz.prog env cfg [e216, e217] 40 e218 = true := by kernel_rfl
theorem b219 : entRun Tryz.prog env cfg [e159, e203, e170, e218] 40 e219 = true := by kernel_rfl
theorem b220 : entRun Tryz.prog env cfg [e219, e194, e195] 40 e220 = true := by kernel_rfl
theorem b221 : entRun Tryz.prog env cfg [e152, e28, e46, e199, e220] 40 e221 = true := by kernel_rfl
theorem b222 : entRun Tryz.prog env cfg [e149, e74, e221] 40 e222 = true := by kernel_rfl
theorem b223 : entRun Tryz.prog env cfg [] 40 e223 = true := by kernel_rfl
theorem b224 : entRun Tryz.prog env cfg [e152, e38, e46, e223] 40 e224 = true := by kernel_rfl
theorem b225 : entRun Tryz.prog env cfg [e149, e74, e224] 40 e225 = true := by kernel_rfl
theorem b226 : entRun Tryz.prog env cfg [e157] 40 e226 = true := by kernel_rfl
theorem b227 : entRun Tryz.prog env cfg [] 40 e227 = true := by kernel_rfl
theorem b228 : entRun Tryz.prog env cfg [] 40 e228 = true := by kernel_rfl
theorem b229 : entRun Tryz.prog env cfg [] 40 e229 = true := by kernel_rfl
theorem b230 : entRun Tryz.prog env cfg [e228, e229] 40 e230 = true := by kernel_rfl
theorem b231 : entRun Tryz.prog env cfg [] 40 e231 = true := by kernel_rfl
theorem b232 : entRun Tryz.prog env cfg [e231] 40 e232 = true := by kernel_rfl
theorem b233 : entRun Tryz.prog env cfg [e232] 40 e233 = true := by kernel_rfl
theorem b234 : entRun Tryz.prog env cfg [e233, e186] 40 e234 = true := by kernel_rfl
theorem b235 : entRun Tryz.prog env cfg [e172, e174, e175, e227, e230, e234] 40 e235 = true := by kernel_rfl
theorem b236 : entRun Tryz.prog env cfg [e235] 40 e236 = true := by kernel_rfl
theorem b237 : entRun Tryz.prog env cfg [] 40 e237 = true := by kernel_rfl
theorem b238 : entRun Tryz.prog env cfg [e237] 40 e238 = true := by kernel_rfl
theorem b239 : entRun Tryz.prog env cfg [e236, e238] 40 e239 = true := by kernel_rfl
end Go.Proofs.YtpejdgkaapnekaaGreat

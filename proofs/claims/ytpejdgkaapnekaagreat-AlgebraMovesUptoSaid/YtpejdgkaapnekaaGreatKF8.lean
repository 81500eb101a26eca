import Derived.Test.YtpejdgkaapnekaaGreatPb
import Derived.Test.YtpejdgkaapnekaaGreatKE
set_option linter.unusedVariables false
set_option linter.unusedSimpArgs false

namespace Go.Proofs.YtpejdgkaapnekaaGreat
open Go Go.Abs
set_option maxRecDepth 1000000
theorem b240 : entRun Tryz.prog env cfg [e159, e170, e239] 40 e240 = true := by kernel_rfl
theorem b241 : entRun Tryz.prog env cfg [] 40 e241 = true := by kernel_rfl
theorem b242 : entRun Tryz.prog env cfg [] 40 e242 = true := by kernel_rfl
theorem b243 : entRun Tryz.prog env cfg [e240, e241, e242] 40 e243 = true := by kernel_rfl
theorem b244 : entRun Tryz.prog env cfg [e152, e46, e226, e243] 40 e244 = true := by kernel_rfl
theorem b245 : entRun Tryz.prog env cfg [e149, e74, e244] 40 e245 = true := by kernel_rfl
theorem b246 : entRun Tryz.prog env cfg [] 40 e246 = true := by kernel_rfl
theorem b247 : entRun Tryz.prog env cfg [] 40 e247 = true := by kernel_rfl
theorem b248 : entRun Tryz.prog env cfg [] 40 e248 = true := by kernel_rfl
theorem b249 : entRun Tryz.prog env cfg [] 40 e249 = true := by kernel_rfl
theorem b250 : entRun Tryz.prog env cfg [e249] 40 e250 = true := by kernel_rfl
theorem b251 : entRun Tryz.prog env cfg [e32, e31] 40 e251 = true := by kernel_rfl
theorem b252 : entRun Tryz.prog env cfg [e251] 40 e252 = true := by kernel_rfl
theorem b253 : entRun Tryz.prog env cfg [e252] 40 e253 = true := by kernel_rfl
theorem b254 : entRun Tryz.prog env cfg [e253] 40 e254 = true := by kernel_rfl
theorem b255 : entRun Tryz.prog env cfg [e254] 40 e255 = true := by kernel_rfl
theorem b256 : entRun Tryz.prog env cfg [e255] 40 e256 = true := by kernel_rfl
theorem b257 : entRun Tryz.prog env cfg [e250, e256] 40 e257 = true := by kernel_rfl
theorem b258 : entRun Tryz.prog env cfg [e246, e127, e247, e248, e128, e129, e257] 40 e258 = true := by kernel_rfl
theorem b259 : entRun Tryz.prog env cfg [e156, e198, e222, e225, e245, e258] 40 e259 = true := by kernel_rfl
theorem b260 : entRun Tryz.prog env cfg [] 40 e260 = true := by kernel_rfl
theorem b261 : entRun Tryz.prog env cfg [] 40 e261 = true := by kernel_rfl
theorem b262 : entRun Tryz.prog env cfg [] 40 e262 = true := by kernel_rfl
theorem b263 : entRun Tryz.prog env cfg [] 40 e263 = true := by kernel_rfl
theorem b264 : entRun Tryz.prog env cfg [e262, e263, e142, e143] 40 e264 = true := by kernel_rfl
theorem b265 : entRun Tryz.prog env cfg [e261, e141, e264] 40 e265 = true := by kernel_rfl
theorem b266 : entRun Tryz.prog env cfg [e265] 40 e266 = true := by kernel_rfl
theorem b267 : entRun Tryz.prog env cfg [] 40 e267 = true := by kernel_rfl
theorem b268 : entRun Tryz.prog env cfg [] 40 e268 = true := by kernel_rfl
theorem b269 : entRun Tryz.prog env cfg [e268] 40 e269 = true := by kernel_rfl
end Go.Proofs.YtpejdgkaapnekaaGreat

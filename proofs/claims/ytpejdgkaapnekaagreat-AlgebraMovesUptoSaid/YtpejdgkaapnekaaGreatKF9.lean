import Derived.Test.YtpejdgkaapnekaaGreatPb
import Derived.Test.YtpejdgkaapnekaaGreatKE
set_option linter.unusedVariables false
set_option linter.unusedSimpArgs false

namespace Go.Proofs.YtpejdgkaapnekaaGreat
open Go Go.Abs
set_option maxRecDepth 1000000
theorem b270 : entRun Tryz.prog env cfg [e269, e17] 40 e270 = true := by kernel_rfl
theorem b271 : entRun Tryz.prog env cfg [e16] 40 e271 = true := by kernel_rfl
theorem b272 : entRun Tryz.prog env cfg [] 40 e272 = true := by kernel_rfl
theorem b273 : entRun Tryz.prog env cfg [] 40 e273 = true := by kernel_rfl
theorem b274 : entRun Tryz.prog env cfg [e272, e273] 40 e274 = true := by kernel_rfl
theorem b275 : entRun Tryz.prog env cfg [e274] 40 e275 = true := by kernel_rfl
theorem b276 : entRun Tryz.prog env cfg [] 40 e276 = true := by kernel_rfl
theorem b277 : entRun Tryz.prog env cfg [] 40 e277 = true := by kernel_rfl
theorem b278 : entRun Tryz.prog env cfg [e271, e275, e276, e277] 40 e278 = true := by kernel_rfl
theorem b279 : entRun Tryz.prog env cfg [e269] 40 e279 = true := by kernel_rfl
theorem b280 : entRun Tryz.prog env cfg [] 40 e280 = true := by kernel_rfl
theorem b281 : entRun Tryz.prog env cfg [e280] 40 e281 = true := by kernel_rfl
theorem b282 : entRun Tryz.prog env cfg [e281] 40 e282 = true := by kernel_rfl
theorem b283 : entRun Tryz.prog env cfg [] 40 e283 = true := by kernel_rfl
theorem b284 : entRun Tryz.prog env cfg [e279, e282, e283] 40 e284 = true := by kernel_rfl
theorem b285 : entRun Tryz.prog env cfg [e278, e21, e276, e277] 40 e285 = true := by kernel_rfl
theorem b286 : entRun Tryz.prog env cfg [] 40 e286 = true := by kernel_rfl
theorem b287 : entRun Tryz.prog env cfg [e284, e286, e283] 40 e287 = true := by kernel_rfl
theorem b288 : entRun Tryz.prog env cfg [e278, e26, e276, e277] 40 e288 = true := by kernel_rfl
theorem b289 : entRun Tryz.prog env cfg [e284, e286, e283] 40 e289 = true := by kernel_rfl
theorem b290 : entRun Tryz.prog env cfg [e278, e36, e276, e277] 40 e290 = true := by kernel_rfl
theorem b291 : entRun Tryz.prog env cfg [e284, e286, e283] 40 e291 = true := by kernel_rfl
theorem b292 : entRun Tryz.prog env cfg [e278, e44, e276, e277] 40 e292 = true := by kernel_rfl
theorem b293 : entRun Tryz.prog env cfg [e284, e286, e283] 40 e293 = true := by kernel_rfl
theorem b294 : entRun Tryz.prog env cfg [] 40 e294 = true := by kernel_rfl
theorem b295 : entRun Tryz.prog env cfg [] 40 e295 = true := by kernel_rfl
theorem b296 : entRun Tryz.prog env cfg [] 40 e296 = true := by kernel_rfl
theorem b297 : entRun Tryz.prog env cfg [] 40 e297 = true := by kernel_rfl
theorem b298 : entRun Tryz.prog env cfg [] 40 e298 = true := by kernel_rfl
theorem b299 : entRun Tryz.prog env cfg [] 40 e299 = true := by kernel_rfl
end Go.Proofs.YtpejdgkaapnekaaGreat

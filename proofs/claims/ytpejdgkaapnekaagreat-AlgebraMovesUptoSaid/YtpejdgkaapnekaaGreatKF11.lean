import Derived.Test.YtpejdgkaapnekaaGreatPb
import Derived.Test.YtpejdgkaapnekaaGreatKE
set_option linter.unusedVariables false
set_option linter.unusedSimpArgs false

namespace Go.Proofs.YtpejdgkaapnekaaGreat
open Go Go.Abs
set_option maxRecDepth 1000000
theorem b330 : entRun Tryz.prog env cfg [] 40 e330 = true := by kernel_rfl
theorem b331 : entRun Tryz.prog env cfg [] 40 e331 = true := by kernel_rfl
theorem b332 : entRun Tryz.prog env cfg [] 40 e332 = true := by kernel_rfl
theorem b333 : entRun Tryz.prog env cfg [] 40 e333 = true := by kernel_rfl
theorem b334 : entRun Tryz.prog env cfg [e328, e263, e329, e143, e330, e331, e332, e333] 40 e334 = true := by kernel_rfl
theorem b335 : entRun Tryz.prog env cfg [e327, e141, e334] 40 e335 = true := by kernel_rfl
theorem b336 : entRun Tryz.prog env cfg [e335] 40 e336 = true := by kernel_rfl
theorem b337 : entRun Tryz.prog env cfg [e117] 40 e337 = true := by kernel_rfl
theorem b338 : entRun Tryz.prog env cfg [e337] 40 e338 = true := by kernel_rfl
theorem b339 : entRun Tryz.prog env cfg [e338] 40 e339 = true := by kernel_rfl
theorem b340 : entRun Tryz.prog env cfg [] 40 e340 = true := by kernel_rfl
theorem b341 : entRun Tryz.prog env cfg [e340] 40 e341 = true := by kernel_rfl
theorem b342 : entRun Tryz.prog env cfg [e341] 40 e342 = true := by kernel_rfl
theorem b343 : entRun Tryz.prog env cfg [e342] 40 e343 = true := by kernel_rfl
theorem b344 : entRun Tryz.prog env cfg [e343] 40 e344 = true := by kernel_rfl
theorem b345 : entRun Tryz.prog env cfg [] 40 e345 = true := by kernel_rfl
theorem b346 : entRun Tryz.prog env cfg [] 40 e346 = true := by kernel_rfl
theorem b347 : entRun Tryz.prog env cfg [e345, e346] 40 e347 = true := by kernel_rfl
theorem b348 : entRun Tryz.prog env cfg [e347] 40 e348 = true := by kernel_rfl
theorem b349 : entRun Tryz.prog env cfg [] 40 e349 = true := by kernel_rfl
theorem b350 : entRun Tryz.prog env cfg [] 40 e350 = true := by kernel_rfl
theorem b351 : entRun Tryz.prog env cfg [] 40 e351 = true := by kernel_rfl
theorem b352 : entRun Tryz.prog env cfg [] 40 e352 = true := by kernel_rfl
theorem b353 : entRun Tryz.prog env cfg [] 40 e353 = true := by kernel_rfl
theorem b354 : entRun Tryz.prog env cfg [] 40 e354 = true := by kernel_rfl
theorem b355 : entRun Tryz.prog env cfg [] 40 e355 = true := by kernel_rfl
theorem b356 : entRun Tryz.prog env cfg [] 40 e356 = true := by kernel_rfl
theorem b357 : entRun Tryz.prog env cfg [] 40 e357 = true := by kernel_rfl
theorem b358 : entRun Tryz.prog env cfg [] 40 e358 = true := by kernel_rfl
theorem b359 : entRun Tryz.prog env cfg [] 40 e359 = true := by kernel_rfl
end Go.Proofs.YtpejdgkaapnekaaGreat

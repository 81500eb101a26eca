import Derived.Test.YtpejdgkaapnekaaGreatPb
import Derived.Test.YtpejdgkaapnekaaGreatKE
set_option linter.unusedVariables false
set_option linter.unusedSimpArgs false

namespace Go.Proofs.YtpejdgkaapnekaaGreat
open Go Go.Abs
set_option maxRecDepth 1000000
theorem b390 : entRun Tryz.prog env cfg [e364, e389] 40 e390 = true := by kernel_rfl
theorem b391 : entRun Tryz.prog env cfg [e356, e127, e247, e248, e128, e129, e357, e298, e358, e300, e359, e360, e361, e362, e390] 40 e391 = true := by kernel_rfl
theorem b392 : entRun Tryz.prog env cfg [e339, e344, e121, e348, e349, e350, e351, e352, e353, e354, e355, e391] 40 e392 = true := by kernel_rfl
theorem b393 : entRun Tryz.prog env cfg [e340] 40 e393 = true := by kernel_rfl
theorem b394 : entRun Tryz.prog env cfg [] 40 e394 = true := by kernel_rfl
theorem b395 : entRun Tryz.prog env cfg [e394] 40 e395 = true := by kernel_rfl
theorem b396 : entRun Tryz.prog env cfg [e393, e395] 40 e396 = true := by kernel_rfl
theorem b397 : entRun Tryz.prog env cfg [e396] 40 e397 = true := by kernel_rfl
theorem b398 : entRun Tryz.prog env cfg [e397] 40 e398 = true := by kernel_rfl
theorem b399 : entRun Tryz.prog env cfg [e398] 40 e399 = true := by kernel_rfl
theorem b400 : entRun Tryz.prog env cfg [e340] 40 e400 = true := by kernel_rfl
theorem b401 : entRun Tryz.prog env cfg [e394] 40 e401 = true := by kernel_rfl
theorem b402 : entRun Tryz.prog env cfg [e400, e401] 40 e402 = true := by kernel_rfl
theorem b403 : entRun Tryz.prog env cfg [e402] 40 e403 = true := by kernel_rfl
theorem b404 : entRun Tryz.prog env cfg [e403] 40 e404 = true := by kernel_rfl
theorem b405 : entRun Tryz.prog env cfg [e404, e74] 40 e405 = true := by kernel_rfl
theorem b406 : entRun Tryz.prog env cfg [e15] 40 e406 = true := by kernel_rfl
theorem b407 : entRun Tryz.prog env cfg [e406, e17] 40 e407 = true := by kernel_rfl
theorem b408 : entRun Tryz.prog env cfg [] 40 e408 = true := by kernel_rfl
theorem b409 : entRun Tryz.prog env cfg [e408] 40 e409 = true := by kernel_rfl
theorem b410 : entRun Tryz.prog env cfg [] 40 e410 = true := by kernel_rfl
theorem b411 : entRun Tryz.prog env cfg [e409, e410] 40 e411 = true := by kernel_rfl
theorem b412 : entRun Tryz.prog env cfg [] 40 e412 = true := by kernel_rfl
theorem b413 : entRun Tryz.prog env cfg [] 40 e413 = true := by kernel_rfl
theorem b414 : entRun Tryz.prog env cfg [e408] 40 e414 = true := by kernel_rfl
theorem b415 : entRun Tryz.prog env cfg [e414, e410] 40 e415 = true := by kernel_rfl
theorem b416 : entRun Tryz.prog env cfg [] 40 e416 = true := by kernel_rfl
theorem b417 : entRun Tryz.prog env cfg [e120, e399, e405, e407, e411, e412, e413, e415, e416] 40 e417 = true := by kernel_rfl
theorem b418 : entRun Tryz.prog env cfg [] 40 e418 = true := by kernel_rfl
theorem b419 : entRun Tryz.prog env cfg [e418] 40 e419 = true := by kernel_rfl
end Go.Proofs.YtpejdgkaapnekaaGreat

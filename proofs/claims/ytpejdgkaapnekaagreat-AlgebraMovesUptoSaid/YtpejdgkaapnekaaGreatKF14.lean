import Derived.Test.YtpejdgkaapnekaaGreatPb
import Derived.Test.YtpejdgkaapnekaaGreatKE
set_option linter.unusedVariables false
set_option linter.unusedSimpArgs false

namespace Go.Proofs.YtpejdgkaapnekaaGreat
open Go Go.Abs
set_option maxRecDepth 1000000
theorem b420 : entRun Tryz.prog env cfg [] 40 e420 = true := by kernel_rfl
theorem b421 : entRun Tryz.prog env cfg [e419, e420] 40 e421 = true := by kernel_rfl
theorem b422 : entRun Tryz.prog env cfg [] 40 e422 = true := by kernel_rfl
theorem b423 : entRun Tryz.prog env cfg [] 40 e423 = true := by kernel_rfl
theorem b424 : entRun Tryz.prog env cfg [e418] 40 e424 = true := by kernel_rfl
theorem b425 : entRun Tryz.prog env cfg [e424, e420] 40 e425 = true := by kernel_rfl
theorem b426 : entRun Tryz.prog env cfg [] 40 e426 = true := by kernel_rfl
theorem b427 : entRun Tryz.prog env cfg [] 40 e427 = true := by kernel_rfl
theorem b428 : entRun Tryz.prog env cfg [] 40 e428 = true := by kernel_rfl
theorem b429 : entRun Tryz.prog env cfg [e251] 40 e429 = true := by kernel_rfl
theorem b430 : entRun Tryz.prog env cfg [e429] 40 e430 = true := by kernel_rfl
theorem b431 : entRun Tryz.prog env cfg [e430] 40 e431 = true := by kernel_rfl
theorem b432 : entRun Tryz.prog env cfg [e431] 40 e432 = true := by kernel_rfl
theorem b433 : entRun Tryz.prog env cfg [e432] 40 e433 = true := by kernel_rfl
theorem b434 : entRun Tryz.prog env cfg [e250, e433] 40 e434 = true := by kernel_rfl
theorem b435 : entRun Tryz.prog env cfg [e427, e127, e428, e129, e295, e300, e434] 40 e435 = true := by kernel_rfl
theorem b436 : entRun Tryz.prog env cfg [e120, e399, e405, e407, e411, e412, e413, e415, e416, e421, e422, e423, e425, e426, e435] 40 e436 = true := by kernel_rfl
theorem b437 : entRun Tryz.prog env cfg [] 40 e437 = true := by kernel_rfl
theorem b438 : entRun Tryz.prog env cfg [] 40 e438 = true := by kernel_rfl
theorem b439 : entRun Tryz.prog env cfg [] 40 e439 = true := by kernel_rfl
theorem b440 : entRun Tryz.prog env cfg [] 40 e440 = true := by kernel_rfl
theorem b441 : entRun Tryz.prog env cfg [] 40 e441 = true := by kernel_rfl
theorem b442 : entRun Tryz.prog env cfg [e441, e143, e328, e333] 40 e442 = true := by kernel_rfl
theorem b443 : entRun Tryz.prog env cfg [e440, e141, e442] 40 e443 = true := by kernel_rfl
theorem b444 : entRun Tryz.prog env cfg [e443] 40 e444 = true := by kernel_rfl
theorem b445 : entRun Tryz.prog env cfg [e10, e11, e12, e13, e99, e100, e101, e116, e136, e137, e138, e4, e5, e139, e146, e147, e259, e260, e266, e267, e321, e2, e322, e323, e324, e7, e325, e326, e336, e392, e1, e417, e436, e437, e438, e439, e444] 40 e445 = true := by kernel_rfl
end Go.Proofs.YtpejdgkaapnekaaGreat

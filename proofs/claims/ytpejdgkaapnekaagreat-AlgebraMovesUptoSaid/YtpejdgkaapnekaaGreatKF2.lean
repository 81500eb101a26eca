import Derived.Test.YtpejdgkaapnekaaGreatPb
import Derived.Test.YtpejdgkaapnekaaGreatKE
set_option linter.unusedVariables false
set_option linter.unusedSimpArgs false

namespace Go.Proofs.YtpejdgkaapnekaaGreat
open Go Go.Abs
set_option maxRecDepth 1000000
theorem b60 : entRun Tryz.prog env cfg [e57, e59] 40 e60 = true := by kernel_rfl
theorem b61 : entRun Tryz.prog env cfg [e60] 40 e61 = true := by kernel_rfl
theorem b62 : entRun Tryz.prog env cfg [e61] 40 e62 = true := by kernel_rfl
theorem b63 : entRun Tryz.prog env cfg [] 40 e63 = true := by kernel_rfl
theorem b64 : entRun Tryz.prog env cfg [] 40 e64 = true := by kernel_rfl
theorem b65 : entRun Tryz.prog env cfg [e64] 40 e65 = true := by kernel_rfl
theorem b66 : entRun Tryz.prog env cfg [e46] 40 e66 = true := by kernel_rfl
theorem b67 : entRun Tryz.prog env cfg [e64, e66] 40 e67 = true := by kernel_rfl
theorem b68 : entRun Tryz.prog env cfg [e64] 40 e68 = true := by kernel_rfl
theorem b69 : entRun Tryz.prog env cfg [e62, e63, e65, e67, e68] 40 e69 = true := by kernel_rfl
theorem b70 : entRun Tryz.prog env cfg [] 40 e70 = true := by kernel_rfl
theorem b71 : entRun Tryz.prog env cfg [e70] 40 e71 = true := by kernel_rfl
theorem b72 : entRun Tryz.prog env cfg [e71] 40 e72 = true := by kernel_rfl
theorem b73 : entRun Tryz.prog env cfg [e72] 40 e73 = true := by kernel_rfl
theorem b74 : entRun Tryz.prog env cfg [e73] 40 e74 = true := by kernel_rfl
theorem b75 : entRun Tryz.prog env cfg [e46] 40 e75 = true := by kernel_rfl
theorem b76 : entRun Tryz.prog env cfg [e75, e47] 40 e76 = true := by kernel_rfl
theorem b77 : entRun Tryz.prog env cfg [] 40 e77 = true := by kernel_rfl
theorem b78 : entRun Tryz.prog env cfg [] 40 e78 = true := by kernel_rfl
theorem b79 : entRun Tryz.prog env cfg [] 40 e79 = true := by kernel_rfl
theorem b80 : entRun Tryz.prog env cfg [] 40 e80 = true := by kernel_rfl
theorem b81 : entRun Tryz.prog env cfg [e78] 40 e81 = true := by kernel_rfl
theorem b82 : entRun Tryz.prog env cfg [e78] 40 e82 = true := by kernel_rfl
theorem b83 : entRun Tryz.prog env cfg [e78] 40 e83 = true := by kernel_rfl
theorem b84 : entRun Tryz.prog env cfg [] 40 e84 = true := by kernel_rfl
theorem b85 : entRun Tryz.prog env cfg [] 40 e85 = true := by kernel_rfl
theorem b86 : entRun Tryz.prog env cfg [] 40 e86 = true := by kernel_rfl
theorem b87 : entRun Tryz.prog env cfg [] 40 e87 = true := by kernel_rfl
theorem b88 : entRun Tryz.prog env cfg [] 40 e88 = true := by kernel_rfl
theorem b89 : entRun Tryz.prog env cfg [] 40 e89 = true := by kernel_rfl
end Go.Proofs.YtpejdgkaapnekaaGreat

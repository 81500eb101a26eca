import Derived.Test.YtpejdgkaapnekaaGreatPb
import Derived.Test.YtpejdgkaapnekaaGreatKE
set_option linter.unusedVariables false
set_option linter.unusedSimpArgs false

namespace Go.Proofs.YtpejdgkaapnekaaGreat
open Go Go.Abs
set_option maxRecDepth 1000000
theorem b30 : entRun Tryz.prog env cfg [e26, e29] 40 e30 = true := by kernel_rfl
theorem b31 : entRun Tryz.prog env cfg [] 40 e31 = true := by kernel_rfl
theorem b32 : entRun Tryz.prog env cfg [] 40 e32 = true := by kernel_rfl
theorem b33 : entRun Tryz.prog env cfg [e31, e32] 40 e33 = true := by kernel_rfl
theorem b34 : entRun Tryz.prog env cfg [e33] 40 e34 = true := by kernel_rfl
theorem b35 : entRun Tryz.prog env cfg [e34] 40 e35 = true := by kernel_rfl
theorem b36 : entRun Tryz.prog env cfg [e19, e20] 40 e36 = true := by kernel_rfl
theorem b37 : entRun Tryz.prog env cfg [] 40 e37 = true := by kernel_rfl
theorem b38 : entRun Tryz.prog env cfg [e37] 40 e38 = true := by kernel_rfl
theorem b39 : entRun Tryz.prog env cfg [e38] 40 e39 = true := by kernel_rfl
theorem b40 : entRun Tryz.prog env cfg [e36, e39] 40 e40 = true := by kernel_rfl
theorem b41 : entRun Tryz.prog env cfg [e32] 40 e41 = true := by kernel_rfl
theorem b42 : entRun Tryz.prog env cfg [e41, e33] 40 e42 = true := by kernel_rfl
theorem b43 : entRun Tryz.prog env cfg [e42] 40 e43 = true := by kernel_rfl
theorem b44 : entRun Tryz.prog env cfg [e19, e20] 40 e44 = true := by kernel_rfl
theorem b45 : entRun Tryz.prog env cfg [] 40 e45 = true := by kernel_rfl
theorem b46 : entRun Tryz.prog env cfg [e45] 40 e46 = true := by kernel_rfl
theorem b47 : entRun Tryz.prog env cfg [e46] 40 e47 = true := by kernel_rfl
theorem b48 : entRun Tryz.prog env cfg [e44, e47] 40 e48 = true := by kernel_rfl
theorem b49 : entRun Tryz.prog env cfg [] 40 e49 = true := by kernel_rfl
theorem b50 : entRun Tryz.prog env cfg [e32, e49] 40 e50 = true := by kernel_rfl
theorem b51 : entRun Tryz.prog env cfg [e50] 40 e51 = true := by kernel_rfl
theorem b52 : entRun Tryz.prog env cfg [e51] 40 e52 = true := by kernel_rfl
theorem b53 : entRun Tryz.prog env cfg [e18, e25, e30, e35, e40, e43, e48, e52] 40 e53 = true := by kernel_rfl
theorem b54 : entRun Tryz.prog env cfg [] 40 e54 = true := by kernel_rfl
theorem b55 : entRun Tryz.prog env cfg [e54] 40 e55 = true := by kernel_rfl
theorem b56 : entRun Tryz.prog env cfg [e55] 40 e56 = true := by kernel_rfl
theorem b57 : entRun Tryz.prog env cfg [e56] 40 e57 = true := by kernel_rfl
theorem b58 : entRun Tryz.prog env cfg [e55] 40 e58 = true := by kernel_rfl
theorem b59 : entRun Tryz.prog env cfg [e58] 40 e59 = true := by kernel_rfl
end Go.Proofs.YtpejdgkaapnekaaGreat

import Derived.Test.YtpejdgkaapnekaaGreatPb
import Derived.Test.YtpejdgkaapnekaaGreatKE
set_option linter.unusedVariables false
set_option linter.unusedSimpArgs false

namespace Go.Proofs.YtpejdgkaapnekaaGreat
open Go Go.Abs
set_option maxRecDepth 1000000
theorem b0 : entRun Tryz.prog env cfg [] 40 e0 = true := by kernel_rfl
theorem b1 : entRun Tryz.prog env cfg [] 40 e1 = true := by kernel_rfl
theorem b2 : entRun Tryz.prog env cfg [] 40 e2 = true := by kernel_rfl
theorem b3 : entRun Tryz.prog env cfg [] 40 e3 = true := by kernel_rfl
theorem b4 : entRun Tryz.prog env cfg [] 40 e4 = true := by kernel_rfl
theorem b5 : entRun Tryz.prog env cfg [] 40 e5 = true := by kernel_rfl
theorem b6 : entRun Tryz.prog env cfg [] 40 e6 = true := by kernel_rfl
theorem b7 : entRun Tryz.prog env cfg [] 40 e7 = true := by kernel_rfl
theorem b8 : entRun Tryz.prog env cfg [] 40 e8 = true := by kernel_rfl
theorem b9 : entRun Tryz.prog env cfg [] 40 e9 = true := by kernel_rfl
theorem b10 : entRun Tryz.prog env cfg [e0, e1, e2, e3, e4, e5, e6, e7, e8, e9] 40 e10 = true := by kernel_rfl
theorem b11 : entRun Tryz.prog env cfg [] 40 e11 = true := by kernel_rfl
theorem b12 : entRun Tryz.prog env cfg [e7] 40 e12 = true := by kernel_rfl
theorem b13 : entRun Tryz.prog env cfg [] 40 e13 = true := by kernel_rfl
theorem b14 : entRun Tryz.prog env cfg [] 40 e14 = true := by kernel_rfl
theorem b15 : entRun Tryz.prog env cfg [] 40 e15 = true := by kernel_rfl
theorem b16 : entRun Tryz.prog env cfg [e14, e15] 40 e16 = true := by kernel_rfl
theorem b17 : entRun Tryz.prog env cfg [] 40 e17 = true := by kernel_rfl
theorem b18 : entRun Tryz.prog env cfg [e16, e17] 40 e18 = true := by kernel_rfl
theorem b19 : entRun Tryz.prog env cfg [] 40 e19 = true := by kernel_rfl
theorem b20 : entRun Tryz.prog env cfg [] 40 e20 = true := by kernel_rfl
theorem b21 : entRun Tryz.prog env cfg [e19, e20] 40 e21 = true := by kernel_rfl
theorem b22 : entRun Tryz.prog env cfg [] 40 e22 = true := by kernel_rfl
theorem b23 : entRun Tryz.prog env cfg [e22] 40 e23 = true := by kernel_rfl
theorem b24 : entRun Tryz.prog env cfg [e23] 40 e24 = true := by kernel_rfl
theorem b25 : entRun Tryz.prog env cfg [e21, e24] 40 e25 = true := by kernel_rfl
theorem b26 : entRun Tryz.prog env cfg [e19, e20] 40 e26 = true := by kernel_rfl
theorem b27 : entRun Tryz.prog env cfg [] 40 e27 = true := by kernel_rfl
theorem b28 : entRun Tryz.prog env cfg [e27] 40 e28 = true := by kernel_rfl
theorem b29 : entRun Tryz.prog env cfg [e28] 40 e29 = true := by kernel_rfl
end Go.Proofs.YtpejdgkaapnekaaGreat

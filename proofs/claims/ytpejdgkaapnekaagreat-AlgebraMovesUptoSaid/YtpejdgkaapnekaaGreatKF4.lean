import Derived.Test.YtpejdgkaapnekaaGreatPb
import Derived.Test.YtpejdgkaapnekaaGreatKE
set_option linter.unusedVariables false
set_option linter.unusedSimpArgs false

namespace Go.Proofs.YtpejdgkaapnekaaGreat
open Go Go.Abs
set_option maxRecDepth 1000000
theorem b120 : entRun Tryz.prog env cfg [e119] 40 e120 = true := by kernel_rfl
theorem b121 : entRun Tryz.prog env cfg [] 40 e121 = true := by kernel_rfl
theorem b122 : entRun Tryz.prog env cfg [] 40 e122 = true := by kernel_rfl
theorem b123 : entRun Tryz.prog env cfg [] 40 e123 = true := by kernel_rfl
theorem b124 : entRun Tryz.prog env cfg [] 40 e124 = true := by kernel_rfl
theorem b125 : entRun Tryz.prog env cfg [] 40 e125 = true := by kernel_rfl
theorem b126 : entRun Tryz.prog env cfg [] 40 e126 = true := by kernel_rfl
theorem b127 : entRun Tryz.prog env cfg [] 40 e127 = true := by kernel_rfl
theorem b128 : entRun Tryz.prog env cfg [] 40 e128 = true := by kernel_rfl
theorem b129 : entRun Tryz.prog env cfg [] 40 e129 = true := by kernel_rfl
theorem b130 : entRun Tryz.prog env cfg [] 40 e130 = true := by kernel_rfl
theorem b131 : entRun Tryz.prog env cfg [e130] 40 e131 = true := by kernel_rfl
theorem b132 : entRun Tryz.prog env cfg [] 40 e132 = true := by kernel_rfl
theorem b133 : entRun Tryz.prog env cfg [e132] 40 e133 = true := by kernel_rfl
theorem b134 : entRun Tryz.prog env cfg [e131, e133] 40 e134 = true := by kernel_rfl
theorem b135 : entRun Tryz.prog env cfg [e126, e127, e128, e129, e134] 40 e135 = true := by kernel_rfl
theorem b136 : entRun Tryz.prog env cfg [e120, e121, e122, e123, e124, e125, e135] 40 e136 = true := by kernel_rfl
theorem b137 : entRun Tryz.prog env cfg [] 40 e137 = true := by kernel_rfl
theorem b138 : entRun Tryz.prog env cfg [] 40 e138 = true := by kernel_rfl
theorem b139 : entRun Tryz.prog env cfg [] 40 e139 = true := by kernel_rfl
theorem b140 : entRun Tryz.prog env cfg [] 40 e140 = true := by kernel_rfl
theorem b141 : entRun Tryz.prog env cfg [] 40 e141 = true := by kernel_rfl
theorem b142 : entRun Tryz.prog env cfg [] 40 e142 = true := by kernel_rfl
theorem b143 : entRun Tryz.prog env cfg [] 40 e143 = true := by kernel_rfl
theorem b144 : entRun Tryz.prog env cfg [e142, e143] 40 e144 = true := by kernel_rfl
theorem b145 : entRun Tryz.prog env cfg [e140, e141, e144] 40 e145 = true := by kernel_rfl
theorem b146 : entRun Tryz.prog env cfg [e145] 40 e146 = true := by kernel_rfl
theorem b147 : entRun Tryz.prog env cfg [] 40 e147 = true := by kernel_rfl
theorem b148 : entRun Tryz.prog env cfg [e61] 40 e148 = true := by kernel_rfl
theorem b149 : entRun Tryz.prog env cfg [] 40 e149 = true := by kernel_rfl
end Go.Proofs.YtpejdgkaapnekaaGreat

import Derived.Test.YtpejdgkaapnekaaGreatPb
import Derived.Test.YtpejdgkaapnekaaGreatKE
set_option linter.unusedVariables false
set_option linter.unusedSimpArgs false

namespace Go.Proofs.YtpejdgkaapnekaaGreat
open Go Go.Abs
set_option maxRecDepth 1000000
theorem b150 : entRun Tryz.prog env cfg [e64] 40 e150 = true := by kernel_rfl
theorem b151 : entRun Tryz.prog env cfg [e148, e149, e65, e67, e150] 40 e151 = true := by kernel_rfl
theorem b152 : entRun Tryz.prog env cfg [e77, e78, e79, e80, e81, e82, e83, e84, e85, e86, e87, e88, e89, e90, e91] 40 e152 = true := by kernel_rfl
theorem b153 : entRun Tryz.prog env cfg [e94] 40 e153 = true := by kernel_rfl
theorem b154 : entRun Tryz.prog env cfg [e152, e153] 40 e154 = true := by kernel_rfl
theorem b155 : entRun Tryz.prog env cfg [e149, e74, e76, e154] 40 e155 = true := by kernel_rfl
theorem b156 : entRun Tryz.prog env cfg [e53, e151, e155] 40 e156 = true := by kernel_rfl
theorem b157 : entRun Tryz.prog env cfg [] 40 e157 = true := by kernel_rfl
theorem b158 : entRun Tryz.prog env cfg [e157] 40 e158 = true := by kernel_rfl
theorem b159 : entRun Tryz.prog env cfg [] 40 e159 = true := by kernel_rfl
theorem b160 : entRun Tryz.prog env cfg [] 40 e160 = true := by kernel_rfl
theorem b161 : entRun Tryz.prog env cfg [e160] 40 e161 = true := by kernel_rfl
theorem b162 : entRun Tryz.prog env cfg [e161] 40 e162 = true := by kernel_rfl
theorem b163 : entRun Tryz.prog env cfg [] 40 e163 = true := by kernel_rfl
theorem b164 : entRun Tryz.prog env cfg [e163] 40 e164 = true := by kernel_rfl
theorem b165 : entRun Tryz.prog env cfg [e164] 40 e165 = true := by kernel_rfl
theorem b166 : entRun Tryz.prog env cfg [e162, e165] 40 e166 = true := by kernel_rfl
theorem b167 : entRun Tryz.prog env cfg [] 40 e167 = true := by kernel_rfl
theorem b168 : entRun Tryz.prog env cfg [e167] 40 e168 = true := by kernel_rfl
theorem b169 : entRun Tryz.prog env cfg [e168] 40 e169 = true := by kernel_rfl
theorem b170 : entRun Tryz.prog env cfg [e169, e165] 40 e170 = true := by kernel_rfl
theorem b171 : entRun Tryz.prog env cfg [] 40 e171 = true := by kernel_rfl
theorem b172 : entRun Tryz.prog env cfg [] 40 e172 = true := by kernel_rfl
theorem b173 : entRun Tryz.prog env cfg [e160] 40 e173 = true := by kernel_rfl
theorem b174 : entRun Tryz.prog env cfg [e167] 40 e174 = true := by kernel_rfl
theorem b175 : entRun Tryz.prog env cfg [e163] 40 e175 = true := by kernel_rfl
theorem b176 : entRun Tryz.prog env cfg [] 40 e176 = true := by kernel_rfl
theorem b177 : entRun Tryz.prog env cfg [] 40 e177 = true := by kernel_rfl
theorem b178 : entRun Tryz.prog env cfg [] 40 e178 = true := by kernel_rfl
theorem b179 : entRun Tryz.prog env cfg [e177, e178] 40 e179 = true := by kernel_rfl
end Go.Proofs.YtpejdgkaapnekaaGreat

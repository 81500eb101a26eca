import Derived.Test.YtpejdgkaapnekaaGreatPb
import Derived.Test.YtpejdgkaapnekaaGreatKE
set_option linter.unusedVariables false
set_option linter.unusedSimpArgs false

namespace Go.Proofs.YtpejdgkaapnekaaGreat
open Go Go.Abs
set_option maxRecDepth 1000000
theorem b90 : entRun Tryz.prog env cfg [e77] 40 e90 = true := by kernel_rfl
theorem b91 : entRun Tryz.prog env cfg [e77] 40 e91 = true := by kernel_rfl
theorem b92 : entRun Tryz.prog env cfg [e77, e78, e79, e80, e81, e82, e83, e84, e85, e86, e87, e88, e89, e90, e91] 40 e92 = true := by kernel_rfl
theorem b93 : entRun Tryz.prog env cfg [] 40 e93 = true := by kernel_rfl
theorem b94 : entRun Tryz.prog env cfg [] 40 e94 = true := by kernel_rfl
theorem b95 : entRun Tryz.prog env cfg [e93, e94] 40 e95 = true := by kernel_rfl
theorem b96 : entRun Tryz.prog env cfg [e95] 40 e96 = true := by kernel_rfl
theorem b97 : entRun Tryz.prog env cfg [e92, e96] 40 e97 = true := by kernel_rfl
theorem b98 : entRun Tryz.prog env cfg [e63, e74, e76, e97] 40 e98 = true := by kernel_rfl
theorem b99 : entRun Tryz.prog env cfg [e53, e69, e98] 40 e99 = true := by kernel_rfl
theorem b100 : entRun Tryz.prog env cfg [] 40 e100 = true := by kernel_rfl
theorem b101 : entRun Tryz.prog env cfg [] 40 e101 = true := by kernel_rfl
theorem b102 : entRun Tryz.prog env cfg [e55] 40 e102 = true := by kernel_rfl
theorem b103 : entRun Tryz.prog env cfg [e102] 40 e103 = true := by kernel_rfl
theorem b104 : entRun Tryz.prog env cfg [e57, e103] 40 e104 = true := by kernel_rfl
theorem b105 : entRun Tryz.prog env cfg [e104] 40 e105 = true := by kernel_rfl
theorem b106 : entRun Tryz.prog env cfg [e105] 40 e106 = true := by kernel_rfl
theorem b107 : entRun Tryz.prog env cfg [] 40 e107 = true := by kernel_rfl
theorem b108 : entRun Tryz.prog env cfg [e64] 40 e108 = true := by kernel_rfl
theorem b109 : entRun Tryz.prog env cfg [e64] 40 e109 = true := by kernel_rfl
theorem b110 : entRun Tryz.prog env cfg [e106, e107, e65, e108, e109] 40 e110 = true := by kernel_rfl
theorem b111 : entRun Tryz.prog env cfg [e70] 40 e111 = true := by kernel_rfl
theorem b112 : entRun Tryz.prog env cfg [e111] 40 e112 = true := by kernel_rfl
theorem b113 : entRun Tryz.prog env cfg [e112] 40 e113 = true := by kernel_rfl
theorem b114 : entRun Tryz.prog env cfg [e113] 40 e114 = true := by kernel_rfl
theorem b115 : entRun Tryz.prog env cfg [e107, e74, e114] 40 e115 = true := by kernel_rfl
theorem b116 : entRun Tryz.prog env cfg [e53, e110, e115] 40 e116 = true := by kernel_rfl
theorem b117 : entRun Tryz.prog env cfg [e53] 40 e117 = true := by kernel_rfl
theorem b118 : entRun Tryz.prog env cfg [e117] 40 e118 = true := by kernel_rfl
theorem b119 : entRun Tryz.prog env cfg [e118] 40 e119 = true := by kernel_rfl
end Go.Proofs.YtpejdgkaapnekaaGreat

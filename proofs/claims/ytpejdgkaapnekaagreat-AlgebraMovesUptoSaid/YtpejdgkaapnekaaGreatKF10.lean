import Derived.Test.YtpejdgkaapnekaaGreatPb
import Derived.Test.YtpejdgkaapnekaaGreatKE
set_option linter.unusedVariables false
set_option linter.unusedSimpArgs false

namespace Go.Proofs.YtpejdgkaapnekaaGreat
open Go Go.Abs
set_option maxRecDepth 1000000
theorem b300 : entRun Tryz.prog env cfg [] 40 e300 = true := by kernel_rfl
theorem b301 : entRun Tryz.prog env cfg [] 40 e301 = true := by kernel_rfl
theorem b302 : entRun Tryz.prog env cfg [e301] 40 e302 = true := by kernel_rfl
theorem b303 : entRun Tryz.prog env cfg [e49, e32] 40 e303 = true := by kernel_rfl
theorem b304 : entRun Tryz.prog env cfg [e303] 40 e304 = true := by kernel_rfl
theorem b305 : entRun Tryz.prog env cfg [e304] 40 e305 = true := by kernel_rfl
theorem b306 : entRun Tryz.prog env cfg [e305] 40 e306 = true := by kernel_rfl
theorem b307 : entRun Tryz.prog env cfg [] 40 e307 = true := by kernel_rfl
theorem b308 : entRun Tryz.prog env cfg [e307, e49] 40 e308 = true := by kernel_rfl
theorem b309 : entRun Tryz.prog env cfg [e308] 40 e309 = true := by kernel_rfl
theorem b310 : entRun Tryz.prog env cfg [e309] 40 e310 = true := by kernel_rfl
theorem b311 : entRun Tryz.prog env cfg [e310] 40 e311 = true := by kernel_rfl
theorem b312 : entRun Tryz.prog env cfg [] 40 e312 = true := by kernel_rfl
theorem b313 : entRun Tryz.prog env cfg [e312, e307] 40 e313 = true := by kernel_rfl
theorem b314 : entRun Tryz.prog env cfg [e313] 40 e314 = true := by kernel_rfl
theorem b315 : entRun Tryz.prog env cfg [e314] 40 e315 = true := by kernel_rfl
theorem b316 : entRun Tryz.prog env cfg [e315] 40 e316 = true := by kernel_rfl
theorem b317 : entRun Tryz.prog env cfg [e306, e311, e316] 40 e317 = true := by kernel_rfl
theorem b318 : entRun Tryz.prog env cfg [e317] 40 e318 = true := by kernel_rfl
theorem b319 : entRun Tryz.prog env cfg [e302, e318] 40 e319 = true := by kernel_rfl
theorem b320 : entRun Tryz.prog env cfg [e294, e127, e295, e248, e296, e129, e297, e298, e299, e300, e319] 40 e320 = true := by kernel_rfl
theorem b321 : entRun Tryz.prog env cfg [e120, e270, e278, e284, e285, e287, e288, e289, e290, e291, e292, e293, e320] 40 e321 = true := by kernel_rfl
theorem b322 : entRun Tryz.prog env cfg [] 40 e322 = true := by kernel_rfl
theorem b323 : entRun Tryz.prog env cfg [] 40 e323 = true := by kernel_rfl
theorem b324 : entRun Tryz.prog env cfg [] 40 e324 = true := by kernel_rfl
theorem b325 : entRun Tryz.prog env cfg [] 40 e325 = true := by kernel_rfl
theorem b326 : entRun Tryz.prog env cfg [] 40 e326 = true := by kernel_rfl
theorem b327 : entRun Tryz.prog env cfg [] 40 e327 = true := by kernel_rfl
theorem b328 : entRun Tryz.prog env cfg [] 40 e328 = true := by kernel_rfl
theorem b329 : entRun Tryz.prog env cfg [] 40 e329 = true := by kernel_rfl
end Go.Proofs.YtpejdgkaapnekaaGreat

import Derived.Test.YtpejdgkaapnekaaGreatFPb
import Derived.Test.YtpejdgkaapnekaaGreatFKE
set_option linter.unusedVariables false
set_option linter.unusedSimpArgs false
set_option maxHeartbeats 1000000

namespace Go.Proofs.YtpejdgkaapnekaaGreat
open Go Go.Abs
set_option maxRecDepth 1000000
theorem IT : bF Tryz.prog env cfg [e53] 40 zt = true:=by kernel_rfl
theorem IU : bF Tryz.prog env cfg [] 40 zu = true:=by kernel_rfl
theorem IV : bF Tryz.prog env cfg [l7,zw] 40 zx = true:=by kernel_rfl
theorem IW : bF Tryz.prog env cfg [] 40 zy = true:=by kernel_rfl
theorem IX : bF Tryz.prog env cfg [] 40 zA = true:=by kernel_rfl
theorem IY : bF Tryz.prog env cfg [e53,zB] 40 zC = true:=by kernel_rfl
end Go.Proofs.YtpejdgkaapnekaaGreat

import Derived.Test.YtpejdgkaapnekaaGreatFPb
import Derived.Test.YtpejdgkaapnekaaGreatFKE
set_option linter.unusedVariables false
set_option linter.unusedSimpArgs false
set_option maxHeartbeats 1000000

namespace Go.Proofs.YtpejdgkaapnekaaGreat
open Go Go.Abs
set_option maxRecDepth 1000000
theorem KT : bF Tryz.prog env cfg [zu] 40 Ak = true:=by kernel_rfl
theorem La : bF Tryz.prog env cfg [] 40 Ap = true:=by kernel_rfl
theorem Lf : bF Tryz.prog env cfg [] 40 Ar = true:=by kernel_rfl
theorem LC : bF Tryz.prog env cfg [e53,e69,e98,Ai,zt,Aq,Au,Av,Aw,zC] 40 G6 = true:=by kernel_rfl
end Go.Proofs.YtpejdgkaapnekaaGreat

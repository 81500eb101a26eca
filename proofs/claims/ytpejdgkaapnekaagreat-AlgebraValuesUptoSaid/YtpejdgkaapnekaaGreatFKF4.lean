import Derived.Test.YtpejdgkaapnekaaGreatFPb
import Derived.Test.YtpejdgkaapnekaaGreatFKE
set_option linter.unusedVariables false
set_option linter.unusedSimpArgs false
set_option maxHeartbeats 1000000

namespace Go.Proofs.YtpejdgkaapnekaaGreat
open Go Go.Abs
set_option maxRecDepth 1000000
theorem b69 : bF Tryz.prog env cfg [] 40 e69 = true:=by kernel_rfl
theorem b98 : bF Tryz.prog env cfg [e92] 40 e98 = true:=by kernel_rfl
theorem Lj : bF Tryz.prog env cfg [] 40 At = true:=by kernel_rfl
theorem Lq : bF Tryz.prog env cfg [] 40 Ag = true:=by kernel_rfl
theorem Lu : bF Tryz.prog env cfg [e53,Ah] 40 Av = true:=by kernel_rfl
theorem Ly : bF Tryz.prog env cfg [] 40 zB = true:=by kernel_rfl
end Go.Proofs.YtpejdgkaapnekaaGreat

import Derived.Test.YtpejdgkaapnekaaGreatFPb
import Derived.Test.YtpejdgkaapnekaaGreatFKE
set_option linter.unusedVariables false
set_option linter.unusedSimpArgs false
set_option maxHeartbeats 1000000

namespace Go.Proofs.YtpejdgkaapnekaaGreat
open Go Go.Abs
set_option maxRecDepth 1000000
theorem b53 : bF Tryz.prog env cfg [] 40 e53 = true:=by kernel_rfl
theorem Km : bF Tryz.prog env cfg [] 40 Ad = true:=by kernel_rfl
theorem Ko : bF Tryz.prog env cfg [] 40 l7 = true:=by kernel_rfl
theorem Kp : bF Tryz.prog env cfg [] 40 Ae = true:=by kernel_rfl
theorem Kq : bF Tryz.prog env cfg [zA] 40 Af = true:=by kernel_rfl
theorem Kr : bF Tryz.prog env cfg [Ag] 40 Ah = true:=by kernel_rfl
end Go.Proofs.YtpejdgkaapnekaaGreat

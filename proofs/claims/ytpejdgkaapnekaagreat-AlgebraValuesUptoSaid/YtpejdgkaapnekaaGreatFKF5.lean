import Derived.Test.YtpejdgkaapnekaaGreatFPb
import Derived.Test.YtpejdgkaapnekaaGreatFKE
set_option linter.unusedVariables false
set_option linter.unusedSimpArgs false
set_option maxHeartbeats 1000000

namespace Go.Proofs.YtpejdgkaapnekaaGreat
open Go Go.Abs
set_option maxRecDepth 1000000
theorem KQ : bF Tryz.prog env cfg [l7] 40 Aj = true:=by kernel_rfl
theorem KX : bF Tryz.prog env cfg [] 40 Am = true:=by kernel_rfl
theorem K4 : bF Tryz.prog env cfg [Am] 40 zw = true:=by kernel_rfl
theorem Lc : bF Tryz.prog env cfg [e53,Ad,Aj,Al,zx,l7,Ao,Ap] 40 Aq = true:=by kernel_rfl
theorem Lh : bF Tryz.prog env cfg [] 40 As = true:=by kernel_rfl
theorem Lw : bF Tryz.prog env cfg [e53] 40 Aw = true:=by kernel_rfl
end Go.Proofs.YtpejdgkaapnekaaGreat

import Derived.Test.YtpejdgkaapnekaaGreatFPb
import Derived.Test.YtpejdgkaapnekaaGreatFKE
set_option linter.unusedVariables false
set_option linter.unusedSimpArgs false
set_option maxHeartbeats 1000000

namespace Go.Proofs.YtpejdgkaapnekaaGreat
open Go Go.Abs
set_option maxRecDepth 1000000
theorem b92 : bF Tryz.prog env cfg [] 40 e92 = true:=by kernel_rfl
theorem KM : bF Tryz.prog env cfg [] 40 Ai = true:=by kernel_rfl
theorem KV : bF Tryz.prog env cfg [l7,Ak] 40 Al = true:=by kernel_rfl
theorem K8 : bF Tryz.prog env cfg [zy] 40 Ao = true:=by kernel_rfl
theorem Ln : bF Tryz.prog env cfg [e53,Ae,Ar,As,At,Af] 40 Au = true:=by kernel_rfl
end Go.Proofs.YtpejdgkaapnekaaGreat

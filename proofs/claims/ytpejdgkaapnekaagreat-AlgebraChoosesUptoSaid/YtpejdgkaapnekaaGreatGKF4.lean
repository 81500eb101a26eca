import Derived.Test.YtpejdgkaapnekaaGreatGPb
import Derived.Test.YtpejdgkaapnekaaGreatGKE
set_option linter.unusedVariables false
set_option linter.unusedSimpArgs false
set_option linter.unnecessarySimpa false
set_option maxHeartbeats 1000000
namespace Go.Proofs.YtpejdgkaapnekaaGreat
open Go Go.Abs
set_option maxRecDepth 1000000
theorem b69 : aX Tryz.prog env cfg [] 40 e69 = true:=by kernel_rfl
theorem b98 : aX Tryz.prog env cfg [e92] 40 e98 = true:=by kernel_rfl
theorem Pq : aX Tryz.prog env cfg [] 40 Cq = true:=by kernel_rfl
theorem Pw : aX Tryz.prog env cfg [] 40 Cd = true:=by kernel_rfl
theorem Pz : aX Tryz.prog env cfg [e53,Ce] 40 Ct = true:=by kernel_rfl
theorem PD : aX Tryz.prog env cfg [] 40 Bv = true:=by kernel_rfl
end Go.Proofs.YtpejdgkaapnekaaGreat

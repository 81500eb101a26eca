import Derived.Test.YtpejdgkaapnekaaGreatVPb
import Derived.Test.YtpejdgkaapnekaaGreatVKE
set_option linter.unusedVariables false
set_option linter.unusedSimpArgs false
set_option linter.unnecessarySimpa false
set_option maxHeartbeats 1000000
namespace Go.Proofs.YtpejdgkaapnekaaGreat
open Go Go.Abs
set_option maxRecDepth 1000000
theorem b69 : aL Tryz.prog env cfg [] 40 e69 = true:=by kernel_rfl
theorem b98 : aL Tryz.prog env cfg [e92] 40 e98 = true:=by kernel_rfl
theorem Mr : aL Tryz.prog env cfg [] 40 Bv = true:=by kernel_rfl
theorem Mx : aL Tryz.prog env cfg [] 40 Bi = true:=by kernel_rfl
theorem MA : aL Tryz.prog env cfg [e53,Bj] 40 Bx = true:=by kernel_rfl
theorem ME : aL Tryz.prog env cfg [] 40 AA = true:=by kernel_rfl
end Go.Proofs.YtpejdgkaapnekaaGreat

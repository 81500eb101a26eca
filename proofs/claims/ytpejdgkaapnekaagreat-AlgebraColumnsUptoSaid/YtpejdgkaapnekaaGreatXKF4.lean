import Derived.Test.YtpejdgkaapnekaaGreatXPb
import Derived.Test.YtpejdgkaapnekaaGreatXKE
set_option linter.unusedVariables false
set_option linter.unusedSimpArgs false
set_option maxHeartbeats 1000000
namespace Go.Proofs.YtpejdgkaapnekaaGreat
open Go Go.Abs
set_option maxRecDepth 1000000
theorem b69 : bd Tryz.prog env cfg [] 40 e69 = true:=by kernel_rfl
theorem b98 : bd Tryz.prog env cfg [e92] 40 e98 = true:=by kernel_rfl
theorem RP : bd Tryz.prog env cfg [] 40 Ea = true:=by kernel_rfl
theorem RV : bd Tryz.prog env cfg [] 40 DY = true:=by kernel_rfl
theorem RY : bd Tryz.prog env cfg [e53,DZ] 40 Ec = true:=by kernel_rfl
theorem R8 : bd Tryz.prog env cfg [] 40 C7 = true:=by kernel_rfl
end Go.Proofs.YtpejdgkaapnekaaGreat

import Derived.Test.YtpejdgkaapnekaaGreatXPb
import Derived.Test.YtpejdgkaapnekaaGreatXKE
set_option linter.unusedVariables false
set_option linter.unusedSimpArgs false
set_option maxHeartbeats 1000000
namespace Go.Proofs.YtpejdgkaapnekaaGreat
open Go Go.Abs
set_option maxRecDepth 1000000
theorem Rp : bd Tryz.prog env cfg [nR] 40 D1 = true:=by kernel_rfl
theorem Rx : bd Tryz.prog env cfg [] 40 D4 = true:=by kernel_rfl
theorem Rz : bd Tryz.prog env cfg [D4] 40 CX = true:=by kernel_rfl
theorem RH : bd Tryz.prog env cfg [e53,DV,D1,D3,CY,nR,D5,D6] 40 D7 = true:=by kernel_rfl
theorem RN : bd Tryz.prog env cfg [] 40 D9 = true:=by kernel_rfl
theorem R6 : bd Tryz.prog env cfg [e53] 40 Ed = true:=by kernel_rfl
end Go.Proofs.YtpejdgkaapnekaaGreat

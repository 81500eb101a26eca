import Derived.Test.YtpejdgkaapnekaaGreatXPb
import Derived.Test.YtpejdgkaapnekaaGreatXKE
set_option linter.unusedVariables false
set_option linter.unusedSimpArgs false
set_option maxHeartbeats 1000000
namespace Go.Proofs.YtpejdgkaapnekaaGreat
open Go Go.Abs
set_option maxRecDepth 1000000
theorem b53 : bd Tryz.prog env cfg [] 40 e53 = true:=by kernel_rfl
theorem QK : bd Tryz.prog env cfg [] 40 DV = true:=by kernel_rfl
theorem QL : bd Tryz.prog env cfg [] 40 nR = true:=by kernel_rfl
theorem QM : bd Tryz.prog env cfg [] 40 DW = true:=by kernel_rfl
theorem QN : bd Tryz.prog env cfg [C6] 40 DX = true:=by kernel_rfl
theorem QO : bd Tryz.prog env cfg [DY] 40 DZ = true:=by kernel_rfl
end Go.Proofs.YtpejdgkaapnekaaGreat

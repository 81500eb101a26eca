import Derived.Test.YtpejdgkaapnekaaGreatWPb
import Derived.Test.YtpejdgkaapnekaaGreatWKE
set_option linter.unusedVariables false
set_option linter.unusedSimpArgs false
set_option linter.unnecessarySimpa false
set_option maxHeartbeats 1000000
namespace Go.Proofs.YtpejdgkaapnekaaGreat
open Go Go.Abs
set_option maxRecDepth 1000000
theorem b69 : aS Tryz.prog env cfg [] 40 e69 = true:=by kernel_rfl
theorem b98 : aS Tryz.prog env cfg [e92] 40 e98 = true:=by kernel_rfl
theorem Oh : aS Tryz.prog env cfg [] 40 Ce = true:=by kernel_rfl
theorem Oo : aS Tryz.prog env cfg [] 40 B2 = true:=by kernel_rfl
theorem Ou : aS Tryz.prog env cfg [e53,B3] 40 Cg = true:=by kernel_rfl
theorem Oy : aS Tryz.prog env cfg [] 40 Bp = true:=by kernel_rfl
end Go.Proofs.YtpejdgkaapnekaaGreat

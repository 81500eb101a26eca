import Derived.Test.YtpejdgkaapnekaaGreatWPb
import Derived.Test.YtpejdgkaapnekaaGreatWKE
set_option linter.unusedVariables false
set_option linter.unusedSimpArgs false
set_option linter.unnecessarySimpa false
set_option maxHeartbeats 1000000
namespace Go.Proofs.YtpejdgkaapnekaaGreat
open Go Go.Abs
set_option maxRecDepth 1000000
theorem Lb : aS Tryz.prog env cfg [e53] 40 Bj = true:=by kernel_rfl
theorem Lc : aS Tryz.prog env cfg [] 40 Bk = true:=by kernel_rfl
theorem Ld : aS Tryz.prog env cfg [mG,Bl] 40 Bm = true:=by kernel_rfl
theorem Le : aS Tryz.prog env cfg [] 40 Bn = true:=by kernel_rfl
theorem Lf : aS Tryz.prog env cfg [] 40 Bo = true:=by kernel_rfl
theorem Lg : aS Tryz.prog env cfg [e53,Bp] 40 Br = true:=by kernel_rfl
end Go.Proofs.YtpejdgkaapnekaaGreat

import Derived.Test.YtpejdgkaapnekaaGreatWPb
import Derived.Test.YtpejdgkaapnekaaGreatWKE
set_option linter.unusedVariables false
set_option linter.unusedSimpArgs false
set_option linter.unnecessarySimpa false
set_option maxHeartbeats 1000000
namespace Go.Proofs.YtpejdgkaapnekaaGreat
open Go Go.Abs
set_option maxRecDepth 1000000
theorem b53 : aS Tryz.prog env cfg [] 40 e53 = true:=by kernel_rfl
theorem M6 : aS Tryz.prog env cfg [] 40 BZ = true:=by kernel_rfl
theorem M7 : aS Tryz.prog env cfg [] 40 mG = true:=by kernel_rfl
theorem M8 : aS Tryz.prog env cfg [] 40 B0 = true:=by kernel_rfl
theorem M9 : aS Tryz.prog env cfg [Bo] 40 B1 = true:=by kernel_rfl
theorem Na : aS Tryz.prog env cfg [B2] 40 B3 = true:=by kernel_rfl
end Go.Proofs.YtpejdgkaapnekaaGreat

import Derived.Test.YtpejdgkaapnekaaGreatWPb
import Derived.Test.YtpejdgkaapnekaaGreatWKE
set_option linter.unusedVariables false
set_option linter.unusedSimpArgs false
set_option linter.unnecessarySimpa false
set_option maxHeartbeats 1000000
namespace Go.Proofs.YtpejdgkaapnekaaGreat
open Go Go.Abs
set_option maxRecDepth 1000000
theorem b92 : aS Tryz.prog env cfg [] 40 e92 = true:=by kernel_rfl
theorem NO : aS Tryz.prog env cfg [] 40 B4 = true:=by kernel_rfl
theorem NX : aS Tryz.prog env cfg [mG,B6] 40 B7 = true:=by kernel_rfl
theorem N6 : aS Tryz.prog env cfg [Bn] 40 B9 = true:=by kernel_rfl
theorem Om : aS Tryz.prog env cfg [e53,B0,Cc,Cd,Ce,B1] 40 Cf = true:=by kernel_rfl
end Go.Proofs.YtpejdgkaapnekaaGreat

import Derived.Test.YtpejdgkaapnekaaGreatVPb
import Derived.Test.YtpejdgkaapnekaaGreatVKE
set_option linter.unusedVariables false
set_option linter.unusedSimpArgs false
set_option linter.unnecessarySimpa false
set_option maxHeartbeats 1000000
namespace Go.Proofs.YtpejdgkaapnekaaGreat
open Go Go.Abs
set_option maxRecDepth 1000000
theorem LX : aL Tryz.prog env cfg [mj] 40 Bl = true:=by kernel_rfl
theorem Ma : aL Tryz.prog env cfg [] 40 Bo = true:=by kernel_rfl
theorem Mc : aL Tryz.prog env cfg [Bo] 40 Aw = true:=by kernel_rfl
theorem Mk : aL Tryz.prog env cfg [e53,Bf,Bl,Bn,Ax,mj,Bp,Br] 40 Bs = true:=by kernel_rfl
theorem Mp : aL Tryz.prog env cfg [] 40 Bu = true:=by kernel_rfl
theorem MC : aL Tryz.prog env cfg [e53] 40 By = true:=by kernel_rfl
end Go.Proofs.YtpejdgkaapnekaaGreat

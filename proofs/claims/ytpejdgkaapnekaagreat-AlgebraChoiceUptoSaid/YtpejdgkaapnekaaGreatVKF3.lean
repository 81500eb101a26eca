import Derived.Test.YtpejdgkaapnekaaGreatVPb
import Derived.Test.YtpejdgkaapnekaaGreatVKE
set_option linter.unusedVariables false
set_option linter.unusedSimpArgs false
set_option linter.unnecessarySimpa false
set_option maxHeartbeats 1000000
namespace Go.Proofs.YtpejdgkaapnekaaGreat
open Go Go.Abs
set_option maxRecDepth 1000000
theorem b53 : aL Tryz.prog env cfg [] 40 e53 = true:=by kernel_rfl
theorem Lr : aL Tryz.prog env cfg [] 40 Bf = true:=by kernel_rfl
theorem Lt : aL Tryz.prog env cfg [] 40 mj = true:=by kernel_rfl
theorem Lu : aL Tryz.prog env cfg [] 40 Bg = true:=by kernel_rfl
theorem Lv : aL Tryz.prog env cfg [Az] 40 Bh = true:=by kernel_rfl
theorem Lw : aL Tryz.prog env cfg [Bi] 40 Bj = true:=by kernel_rfl
end Go.Proofs.YtpejdgkaapnekaaGreat

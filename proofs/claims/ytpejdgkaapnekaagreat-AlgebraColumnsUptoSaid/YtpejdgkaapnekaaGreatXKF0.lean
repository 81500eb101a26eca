import Derived.Test.YtpejdgkaapnekaaGreatXPb
import Derived.Test.YtpejdgkaapnekaaGreatXKE
set_option linter.unusedVariables false
set_option linter.unusedSimpArgs false
set_option maxHeartbeats 1000000
namespace Go.Proofs.YtpejdgkaapnekaaGreat
open Go Go.Abs
set_option maxRecDepth 1000000
theorem Rs : bd Tryz.prog env cfg [CW] 40 D2 = true:=by kernel_rfl
theorem RF : bd Tryz.prog env cfg [] 40 D6 = true:=by kernel_rfl
theorem RL : bd Tryz.prog env cfg [] 40 D8 = true:=by kernel_rfl
theorem Se : bd Tryz.prog env cfg [e53,e69,e98,D0,CV,D7,Eb,Ec,Ed,C8] 40 LS = true:=by kernel_rfl
end Go.Proofs.YtpejdgkaapnekaaGreat

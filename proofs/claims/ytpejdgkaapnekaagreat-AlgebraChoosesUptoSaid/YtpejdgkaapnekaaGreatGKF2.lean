import Derived.Test.YtpejdgkaapnekaaGreatGPb
import Derived.Test.YtpejdgkaapnekaaGreatGKE
set_option linter.unusedVariables false
set_option linter.unusedSimpArgs false
set_option linter.unnecessarySimpa false
set_option maxHeartbeats 1000000
namespace Go.Proofs.YtpejdgkaapnekaaGreat
open Go Go.Abs
set_option maxRecDepth 1000000
theorem Mh : aX Tryz.prog env cfg [e53] 40 Bn = true:=by kernel_rfl
theorem Mi : aX Tryz.prog env cfg [] 40 Bo = true:=by kernel_rfl
theorem Mj : aX Tryz.prog env cfg [mV,Bp] 40 Br = true:=by kernel_rfl
theorem Mk : aX Tryz.prog env cfg [] 40 Bt = true:=by kernel_rfl
theorem Ml : aX Tryz.prog env cfg [] 40 Bu = true:=by kernel_rfl
theorem Mm : aX Tryz.prog env cfg [e53,Bv] 40 Bw = true:=by kernel_rfl
end Go.Proofs.YtpejdgkaapnekaaGreat

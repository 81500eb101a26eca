import Derived.Test.YtpejdgkaapnekaaGreatVPb
import Derived.Test.YtpejdgkaapnekaaGreatVKE
set_option linter.unusedVariables false
set_option linter.unusedSimpArgs false
set_option linter.unnecessarySimpa false
set_option maxHeartbeats 1000000
namespace Go.Proofs.YtpejdgkaapnekaaGreat
open Go Go.Abs
set_option maxRecDepth 1000000
theorem L5 : aL Tryz.prog env cfg [Av] 40 Bm = true:=by kernel_rfl
theorem Mi : aL Tryz.prog env cfg [] 40 Br = true:=by kernel_rfl
theorem Mn : aL Tryz.prog env cfg [] 40 Bt = true:=by kernel_rfl
theorem MH : aL Tryz.prog env cfg [e53,e69,e98,Bk,Au,Bs,Bw,Bx,By,AB] 40 HQ = true:=by kernel_rfl
end Go.Proofs.YtpejdgkaapnekaaGreat

import Derived.Test.YtpejdgkaapnekaaGreatVPb
import Derived.Test.YtpejdgkaapnekaaGreatVKE
set_option linter.unusedVariables false
set_option linter.unusedSimpArgs false
set_option linter.unnecessarySimpa false
set_option maxHeartbeats 1000000
namespace Go.Proofs.YtpejdgkaapnekaaGreat
open Go Go.Abs
set_option maxRecDepth 1000000
theorem b92 : aL Tryz.prog env cfg [] 40 e92 = true:=by kernel_rfl
theorem LS : aL Tryz.prog env cfg [] 40 Bk = true:=by kernel_rfl
theorem L7 : aL Tryz.prog env cfg [mj,Bm] 40 Bn = true:=by kernel_rfl
theorem Mg : aL Tryz.prog env cfg [Ay] 40 Bp = true:=by kernel_rfl
theorem Mv : aL Tryz.prog env cfg [e53,Bg,Bt,Bu,Bv,Bh] 40 Bw = true:=by kernel_rfl
end Go.Proofs.YtpejdgkaapnekaaGreat

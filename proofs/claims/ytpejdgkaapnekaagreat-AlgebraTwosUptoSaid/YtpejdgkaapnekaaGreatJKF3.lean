import Derived.Test.YtpejdgkaapnekaaGreatJPb
import Derived.Test.YtpejdgkaapnekaaGreatJKE
set_option linter.unusedVariables false
set_option linter.unusedSimpArgs false
set_option maxHeartbeats 1000000
namespace Go.Proofs.YtpejdgkaapnekaaGreat
open Go Go.Abs
set_option maxRecDepth 1000000
theorem b53 : bo Tryz.prog env cfg [] 40 e53 = true:=by kernel_rfl
theorem Gt : bo Tryz.prog env cfg [] 40 yb = true:=by kernel_rfl
theorem Gu : bo Tryz.prog env cfg [] 40 kU = true:=by kernel_rfl
theorem Gv : bo Tryz.prog env cfg [] 40 yc = true:=by kernel_rfl
theorem Gw : bo Tryz.prog env cfg [xm] 40 yd = true:=by kernel_rfl
theorem Gx : bo Tryz.prog env cfg [ye] 40 yg = true:=by kernel_rfl
end Go.Proofs.YtpejdgkaapnekaaGreat

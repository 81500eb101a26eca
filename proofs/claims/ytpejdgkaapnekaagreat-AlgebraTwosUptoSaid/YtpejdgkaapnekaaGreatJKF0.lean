import Derived.Test.YtpejdgkaapnekaaGreatJPb
import Derived.Test.YtpejdgkaapnekaaGreatJKE
set_option linter.unusedVariables false
set_option linter.unusedSimpArgs false
set_option maxHeartbeats 1000000
namespace Go.Proofs.YtpejdgkaapnekaaGreat
open Go Go.Abs
set_option maxRecDepth 1000000
theorem GH : bo Tryz.prog env cfg [xi] 40 yj = true:=by kernel_rfl
theorem GU : bo Tryz.prog env cfg [] 40 yo = true:=by kernel_rfl
theorem GZ : bo Tryz.prog env cfg [] 40 yq = true:=by kernel_rfl
theorem Hk : bo Tryz.prog env cfg [e53,e69,e98,yh,xh,yp,yu,yw,yx,xo] 40 Ea = true:=by kernel_rfl
end Go.Proofs.YtpejdgkaapnekaaGreat

import Derived.Test.YtpejdgkaapnekaaGreatJPb
import Derived.Test.YtpejdgkaapnekaaGreatJKE
set_option linter.unusedVariables false
set_option linter.unusedSimpArgs false
set_option maxHeartbeats 1000000
namespace Go.Proofs.YtpejdgkaapnekaaGreat
open Go Go.Abs
set_option maxRecDepth 1000000
theorem GD : bo Tryz.prog env cfg [kU] 40 yi = true:=by kernel_rfl
theorem GL : bo Tryz.prog env cfg [] 40 ym = true:=by kernel_rfl
theorem GN : bo Tryz.prog env cfg [ym] 40 xj = true:=by kernel_rfl
theorem GW : bo Tryz.prog env cfg [e53,yb,yi,yk,xk,kU,yn,yo] 40 yp = true:=by kernel_rfl
theorem G2 : bo Tryz.prog env cfg [] 40 yr = true:=by kernel_rfl
theorem Hf : bo Tryz.prog env cfg [e53] 40 yx = true:=by kernel_rfl
end Go.Proofs.YtpejdgkaapnekaaGreat

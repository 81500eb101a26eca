import Derived.Test.YtpejdgkaapnekaaGreatJPb
import Derived.Test.YtpejdgkaapnekaaGreatJKE
set_option linter.unusedVariables false
set_option linter.unusedSimpArgs false
set_option maxHeartbeats 1000000
namespace Go.Proofs.YtpejdgkaapnekaaGreat
open Go Go.Abs
set_option maxRecDepth 1000000
theorem Fc : bo Tryz.prog env cfg [e53] 40 xh = true:=by kernel_rfl
theorem Fe : bo Tryz.prog env cfg [] 40 xi = true:=by kernel_rfl
theorem Ff : bo Tryz.prog env cfg [kU,xj] 40 xk = true:=by kernel_rfl
theorem Fg : bo Tryz.prog env cfg [] 40 xl = true:=by kernel_rfl
theorem Fh : bo Tryz.prog env cfg [] 40 xm = true:=by kernel_rfl
theorem Fi : bo Tryz.prog env cfg [e53,xn] 40 xo = true:=by kernel_rfl
end Go.Proofs.YtpejdgkaapnekaaGreat

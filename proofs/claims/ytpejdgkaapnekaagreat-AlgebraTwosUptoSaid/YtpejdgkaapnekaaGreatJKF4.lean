import Derived.Test.YtpejdgkaapnekaaGreatJPb
import Derived.Test.YtpejdgkaapnekaaGreatJKE
set_option linter.unusedVariables false
set_option linter.unusedSimpArgs false
set_option maxHeartbeats 1000000
namespace Go.Proofs.YtpejdgkaapnekaaGreat
open Go Go.Abs
set_option maxRecDepth 1000000
theorem b69 : bo Tryz.prog env cfg [] 40 e69 = true:=by kernel_rfl
theorem b98 : bo Tryz.prog env cfg [e92] 40 e98 = true:=by kernel_rfl
theorem G4 : bo Tryz.prog env cfg [] 40 yt = true:=by kernel_rfl
theorem Ha : bo Tryz.prog env cfg [] 40 ye = true:=by kernel_rfl
theorem Hd : bo Tryz.prog env cfg [e53,yg] 40 yw = true:=by kernel_rfl
theorem Hh : bo Tryz.prog env cfg [] 40 xn = true:=by kernel_rfl
end Go.Proofs.YtpejdgkaapnekaaGreat

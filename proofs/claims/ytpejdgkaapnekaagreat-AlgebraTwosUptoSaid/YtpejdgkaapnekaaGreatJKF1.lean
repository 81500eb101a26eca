import Derived.Test.YtpejdgkaapnekaaGreatJPb
import Derived.Test.YtpejdgkaapnekaaGreatJKE
set_option linter.unusedVariables false
set_option linter.unusedSimpArgs false
set_option maxHeartbeats 1000000
namespace Go.Proofs.YtpejdgkaapnekaaGreat
open Go Go.Abs
set_option maxRecDepth 1000000
theorem b92 : bo Tryz.prog env cfg [] 40 e92 = true:=by kernel_rfl
theorem Gz : bo Tryz.prog env cfg [] 40 yh = true:=by kernel_rfl
theorem GJ : bo Tryz.prog env cfg [kU,yj] 40 yk = true:=by kernel_rfl
theorem GR : bo Tryz.prog env cfg [xl] 40 yn = true:=by kernel_rfl
theorem G8 : bo Tryz.prog env cfg [e53,yc,yq,yr,yt,yd] 40 yu = true:=by kernel_rfl
end Go.Proofs.YtpejdgkaapnekaaGreat

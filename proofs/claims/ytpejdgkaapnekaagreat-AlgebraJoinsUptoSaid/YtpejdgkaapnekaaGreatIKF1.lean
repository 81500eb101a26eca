import Derived.Test.YtpejdgkaapnekaaGreatIPb
import Derived.Test.YtpejdgkaapnekaaGreatIKE
set_option linter.unusedVariables false
set_option linter.unusedSimpArgs false
set_option maxHeartbeats 1000000
namespace Go.Proofs.YtpejdgkaapnekaaGreat
open Go Go.Abs
set_option maxRecDepth 1000000
theorem b92:bf Tryz.prog env cfg [] 40 e92=true:=by kernel_rfl
theorem Fg:bf Tryz.prog env cfg [] 40 xn=true:=by kernel_rfl
theorem Fq:bf Tryz.prog env cfg [kC,xp] 40 xq=true:=by kernel_rfl
theorem Fz:bf Tryz.prog env cfg [wz] 40 xt=true:=by kernel_rfl
theorem FO:bf Tryz.prog env cfg [e53,xj,xw,xx,xy,xk] 40 xz=true:=by kernel_rfl
end Go.Proofs.YtpejdgkaapnekaaGreat

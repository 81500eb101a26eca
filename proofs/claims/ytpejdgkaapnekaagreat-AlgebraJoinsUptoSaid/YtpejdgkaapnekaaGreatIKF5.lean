import Derived.Test.YtpejdgkaapnekaaGreatIPb
import Derived.Test.YtpejdgkaapnekaaGreatIKE
set_option linter.unusedVariables false
set_option linter.unusedSimpArgs false
set_option maxHeartbeats 1000000
namespace Go.Proofs.YtpejdgkaapnekaaGreat
open Go Go.Abs
set_option maxRecDepth 1000000
theorem Fk:bf Tryz.prog env cfg [kC] 40 xo=true:=by kernel_rfl
theorem Ft:bf Tryz.prog env cfg [] 40 xr=true:=by kernel_rfl
theorem Fv:bf Tryz.prog env cfg [xr] 40 wv=true:=by kernel_rfl
theorem FD:bf Tryz.prog env cfg [e53,xi,xo,xq,wy,kC,xt,xu] 40 xv=true:=by kernel_rfl
theorem FI:bf Tryz.prog env cfg [] 40 xx=true:=by kernel_rfl
theorem FW:bf Tryz.prog env cfg [e53] 40 xB=true:=by kernel_rfl
end Go.Proofs.YtpejdgkaapnekaaGreat

import Derived.Test.YtpejdgkaapnekaaGreatIPb
import Derived.Test.YtpejdgkaapnekaaGreatIKE
set_option linter.unusedVariables false
set_option linter.unusedSimpArgs false
set_option maxHeartbeats 1000000
namespace Go.Proofs.YtpejdgkaapnekaaGreat
open Go Go.Abs
set_option maxRecDepth 1000000
theorem b69:bf Tryz.prog env cfg [] 40 e69=true:=by kernel_rfl
theorem b98:bf Tryz.prog env cfg [e92] 40 e98=true:=by kernel_rfl
theorem FK:bf Tryz.prog env cfg [] 40 xy=true:=by kernel_rfl
theorem FQ:bf Tryz.prog env cfg [] 40 xl=true:=by kernel_rfl
theorem FU:bf Tryz.prog env cfg [e53,xm] 40 xA=true:=by kernel_rfl
theorem FY:bf Tryz.prog env cfg [] 40 wC=true:=by kernel_rfl
end Go.Proofs.YtpejdgkaapnekaaGreat

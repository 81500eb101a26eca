import Derived.Test.YtpejdgkaapnekaaGreatKPb
import Derived.Test.YtpejdgkaapnekaaGreatKKE
set_option linter.unusedVariables false
set_option linter.unusedSimpArgs false
set_option maxHeartbeats 1000000
namespace Go.Proofs.YtpejdgkaapnekaaGreat
open Go Go.Abs
set_option maxRecDepth 1000000
theorem b69:bh Tryz.prog env cfg [] 40 e69=true:=by kernel_rfl
theorem b98:bh Tryz.prog env cfg [e92] 40 e98=true:=by kernel_rfl
theorem Vl:bh Tryz.prog env cfg [] 40 Gy=true:=by kernel_rfl
theorem Vr:bh Tryz.prog env cfg [] 40 Gl=true:=by kernel_rfl
theorem Vu:bh Tryz.prog env cfg [e53,Gm] 40 GA=true:=by kernel_rfl
theorem Vy:bh Tryz.prog env cfg [] 40 Fy=true:=by kernel_rfl
end Go.Proofs.YtpejdgkaapnekaaGreat

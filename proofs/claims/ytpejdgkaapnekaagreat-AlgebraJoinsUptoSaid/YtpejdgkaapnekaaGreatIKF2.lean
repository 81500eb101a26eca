import Derived.Test.YtpejdgkaapnekaaGreatIPb
import Derived.Test.YtpejdgkaapnekaaGreatIKE
set_option linter.unusedVariables false
set_option linter.unusedSimpArgs false
set_option maxHeartbeats 1000000
namespace Go.Proofs.YtpejdgkaapnekaaGreat
open Go Go.Abs
set_option maxRecDepth 1000000
theorem Ed:bf Tryz.prog env cfg [e53] 40 wq=true:=by kernel_rfl
theorem Ee:bf Tryz.prog env cfg [] 40 wu=true:=by kernel_rfl
theorem Eg:bf Tryz.prog env cfg [kC,wv] 40 wy=true:=by kernel_rfl
theorem Eh:bf Tryz.prog env cfg [] 40 wz=true:=by kernel_rfl
theorem Ei:bf Tryz.prog env cfg [] 40 wA=true:=by kernel_rfl
theorem Ej:bf Tryz.prog env cfg [e53,wC] 40 wD=true:=by kernel_rfl
end Go.Proofs.YtpejdgkaapnekaaGreat

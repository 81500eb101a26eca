import Derived.Test.YtpejdgkaapnekaaGreatIPb
import Derived.Test.YtpejdgkaapnekaaGreatIKE
set_option linter.unusedVariables false
set_option linter.unusedSimpArgs false
set_option maxHeartbeats 1000000
namespace Go.Proofs.YtpejdgkaapnekaaGreat
open Go Go.Abs
set_option maxRecDepth 1000000
theorem b53:bf Tryz.prog env cfg [] 40 e53=true:=by kernel_rfl
theorem E9:bf Tryz.prog env cfg [] 40 xi=true:=by kernel_rfl
theorem Fa:bf Tryz.prog env cfg [] 40 kC=true:=by kernel_rfl
theorem Fb:bf Tryz.prog env cfg [] 40 xj=true:=by kernel_rfl
theorem Fc:bf Tryz.prog env cfg [wA] 40 xk=true:=by kernel_rfl
theorem Fe:bf Tryz.prog env cfg [xl] 40 xm=true:=by kernel_rfl
end Go.Proofs.YtpejdgkaapnekaaGreat

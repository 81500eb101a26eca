import Derived.Test.YtpejdgkaapnekaaGreatIPb
import Derived.Test.YtpejdgkaapnekaaGreatIKE
set_option linter.unusedVariables false
set_option linter.unusedSimpArgs false
set_option maxHeartbeats 1000000
namespace Go.Proofs.YtpejdgkaapnekaaGreat
open Go Go.Abs
set_option maxRecDepth 1000000
theorem Fo:bf Tryz.prog env cfg [wu] 40 xp=true:=by kernel_rfl
theorem FB:bf Tryz.prog env cfg [] 40 xu=true:=by kernel_rfl
theorem FG:bf Tryz.prog env cfg [] 40 xw=true:=by kernel_rfl
theorem F1:bf Tryz.prog env cfg [e53,e69,e98,xn,wq,xv,xz,xA,xB,wD] 40 C9=true:=by kernel_rfl
end Go.Proofs.YtpejdgkaapnekaaGreat

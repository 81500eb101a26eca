import Derived.Test.YtpejdgkaapnekaaGreatXPb
import Derived.Test.YtpejdgkaapnekaaGreatXKE
set_option linter.unusedVariables false
set_option linter.unusedSimpArgs false
set_option maxHeartbeats 1000000
namespace Go.Proofs.YtpejdgkaapnekaaGreat
open Go Go.Abs
set_option maxRecDepth 1000000
theorem OG : bd Tryz.prog env cfg [e53] 40 CV = true:=by kernel_rfl
theorem OH : bd Tryz.prog env cfg [] 40 CW = true:=by kernel_rfl
theorem OI : bd Tryz.prog env cfg [nR,CX] 40 CY = true:=by kernel_rfl
theorem OJ : bd Tryz.prog env cfg [] 40 CZ = true:=by kernel_rfl
theorem OK : bd Tryz.prog env cfg [] 40 C6 = true:=by kernel_rfl
theorem OL : bd Tryz.prog env cfg [e53,C7] 40 C8 = true:=by kernel_rfl
end Go.Proofs.YtpejdgkaapnekaaGreat

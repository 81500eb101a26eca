import Derived.Test.YtpejdgkaapnekaaGreatVPb
import Derived.Test.YtpejdgkaapnekaaGreatVKE
set_option linter.unusedVariables false
set_option linter.unusedSimpArgs false
set_option linter.unnecessarySimpa false
set_option maxHeartbeats 1000000
namespace Go.Proofs.YtpejdgkaapnekaaGreat
open Go Go.Abs
set_option maxRecDepth 1000000
theorem JA : aL Tryz.prog env cfg [e53] 40 Au = true:=by kernel_rfl
theorem JB : aL Tryz.prog env cfg [] 40 Av = true:=by kernel_rfl
theorem JC : aL Tryz.prog env cfg [mj,Aw] 40 Ax = true:=by kernel_rfl
theorem JD : aL Tryz.prog env cfg [] 40 Ay = true:=by kernel_rfl
theorem JE : aL Tryz.prog env cfg [] 40 Az = true:=by kernel_rfl
theorem JF : aL Tryz.prog env cfg [e53,AA] 40 AB = true:=by kernel_rfl
end Go.Proofs.YtpejdgkaapnekaaGreat

import Derived.Test.YtpejdgkaapnekaaGreatGPb
import Derived.Test.YtpejdgkaapnekaaGreatGKE
set_option linter.unusedVariables false
set_option linter.unusedSimpArgs false
set_option linter.unnecessarySimpa false
set_option maxHeartbeats 1000000
namespace Go.Proofs.YtpejdgkaapnekaaGreat
open Go Go.Abs
set_option maxRecDepth 1000000
theorem OY : aX Tryz.prog env cfg [mV] 40 Cg = true:=by kernel_rfl
theorem O8 : aX Tryz.prog env cfg [] 40 Cj = true:=by kernel_rfl
theorem Pa : aX Tryz.prog env cfg [Cj] 40 Bp = true:=by kernel_rfl
theorem Pi : aX Tryz.prog env cfg [e53,Ca,Cg,Ci,Br,mV,Ck,Cl] 40 Cn = true:=by kernel_rfl
theorem Po : aX Tryz.prog env cfg [] 40 Cp = true:=by kernel_rfl
theorem PB : aX Tryz.prog env cfg [e53] 40 Cu = true:=by kernel_rfl
end Go.Proofs.YtpejdgkaapnekaaGreat

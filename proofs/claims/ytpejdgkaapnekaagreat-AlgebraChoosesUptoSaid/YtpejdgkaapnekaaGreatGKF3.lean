import Derived.Test.YtpejdgkaapnekaaGreatGPb
import Derived.Test.YtpejdgkaapnekaaGreatGKE
set_option linter.unusedVariables false
set_option linter.unusedSimpArgs false
set_option linter.unnecessarySimpa false
set_option maxHeartbeats 1000000
namespace Go.Proofs.YtpejdgkaapnekaaGreat
open Go Go.Abs
set_option maxRecDepth 1000000
theorem b53 : aX Tryz.prog env cfg [] 40 e53 = true:=by kernel_rfl
theorem Oy : aX Tryz.prog env cfg [] 40 Ca = true:=by kernel_rfl
theorem Oz : aX Tryz.prog env cfg [] 40 mV = true:=by kernel_rfl
theorem OA : aX Tryz.prog env cfg [] 40 Cb = true:=by kernel_rfl
theorem OB : aX Tryz.prog env cfg [Bu] 40 Cc = true:=by kernel_rfl
theorem OC : aX Tryz.prog env cfg [Cd] 40 Ce = true:=by kernel_rfl
end Go.Proofs.YtpejdgkaapnekaaGreat

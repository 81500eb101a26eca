import Derived.Test.YtpejdgkaapnekaaGreatGPb
import Derived.Test.YtpejdgkaapnekaaGreatGKE
set_option linter.unusedVariables false
set_option linter.unusedSimpArgs false
set_option linter.unnecessarySimpa false
set_option maxHeartbeats 1000000
namespace Go.Proofs.YtpejdgkaapnekaaGreat
open Go Go.Abs
set_option maxRecDepth 1000000
theorem b92 : aX Tryz.prog env cfg [] 40 e92 = true:=by kernel_rfl
theorem OU : aX Tryz.prog env cfg [] 40 Cf = true:=by kernel_rfl
theorem O6 : aX Tryz.prog env cfg [mV,Ch] 40 Ci = true:=by kernel_rfl
theorem Pe : aX Tryz.prog env cfg [Bt] 40 Ck = true:=by kernel_rfl
theorem Pu : aX Tryz.prog env cfg [e53,Cb,Co,Cp,Cq,Cc] 40 Cr = true:=by kernel_rfl
end Go.Proofs.YtpejdgkaapnekaaGreat

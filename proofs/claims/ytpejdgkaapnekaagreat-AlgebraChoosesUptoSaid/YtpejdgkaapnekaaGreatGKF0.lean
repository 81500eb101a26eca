import Derived.Test.YtpejdgkaapnekaaGreatGPb
import Derived.Test.YtpejdgkaapnekaaGreatGKE
set_option linter.unusedVariables false
set_option linter.unusedSimpArgs false
set_option linter.unnecessarySimpa false
set_option maxHeartbeats 1000000
namespace Go.Proofs.YtpejdgkaapnekaaGreat
open Go Go.Abs
set_option maxRecDepth 1000000
theorem O4 : aX Tryz.prog env cfg [Bo] 40 Ch = true:=by kernel_rfl
theorem Pg : aX Tryz.prog env cfg [] 40 Cl = true:=by kernel_rfl
theorem Pm : aX Tryz.prog env cfg [] 40 Co = true:=by kernel_rfl
theorem PG : aX Tryz.prog env cfg [e53,e69,e98,Cf,Bn,Cn,Cr,Ct,Cu,Bw] 40 JY = true:=by kernel_rfl
end Go.Proofs.YtpejdgkaapnekaaGreat

import Derived.Test.YtpejdgkaapnekaaGreatWPb
import Derived.Test.YtpejdgkaapnekaaGreatWKE
set_option linter.unusedVariables false
set_option linter.unusedSimpArgs false
set_option linter.unnecessarySimpa false
set_option maxHeartbeats 1000000
namespace Go.Proofs.YtpejdgkaapnekaaGreat
open Go Go.Abs
set_option maxRecDepth 1000000
theorem NV : aS Tryz.prog env cfg [Bk] 40 B6 = true:=by kernel_rfl
theorem N8 : aS Tryz.prog env cfg [] 40 Ca = true:=by kernel_rfl
theorem Od : aS Tryz.prog env cfg [] 40 Cc = true:=by kernel_rfl
theorem OB : aS Tryz.prog env cfg [e53,e69,e98,B4,Bj,Cb,Cf,Cg,Ch,Br] 40 I8 = true:=by kernel_rfl
end Go.Proofs.YtpejdgkaapnekaaGreat

import Derived.Test.YtpejdgkaapnekaaGreatWPb
import Derived.Test.YtpejdgkaapnekaaGreatWKE
set_option linter.unusedVariables false
set_option linter.unusedSimpArgs false
set_option linter.unnecessarySimpa false
set_option maxHeartbeats 1000000
namespace Go.Proofs.YtpejdgkaapnekaaGreat
open Go Go.Abs
set_option maxRecDepth 1000000
theorem NS : aS Tryz.prog env cfg [mG] 40 B5 = true:=by kernel_rfl
theorem NZ : aS Tryz.prog env cfg [] 40 B8 = true:=by kernel_rfl
theorem N2 : aS Tryz.prog env cfg [B8] 40 Bl = true:=by kernel_rfl
theorem Oa : aS Tryz.prog env cfg [e53,BZ,B5,B7,Bm,mG,B9,Ca] 40 Cb = true:=by kernel_rfl
theorem Of : aS Tryz.prog env cfg [] 40 Cd = true:=by kernel_rfl
theorem Ow : aS Tryz.prog env cfg [e53] 40 Ch = true:=by kernel_rfl
end Go.Proofs.YtpejdgkaapnekaaGreat

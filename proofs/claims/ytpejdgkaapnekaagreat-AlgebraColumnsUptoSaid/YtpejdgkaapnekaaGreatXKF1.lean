import Derived.Test.YtpejdgkaapnekaaGreatXPb
import Derived.Test.YtpejdgkaapnekaaGreatXKE
set_option linter.unusedVariables false
set_option linter.unusedSimpArgs false
set_option maxHeartbeats 1000000
namespace Go.Proofs.YtpejdgkaapnekaaGreat
open Go Go.Abs
set_option maxRecDepth 1000000
theorem b92 : bd Tryz.prog env cfg [] 40 e92 = true:=by kernel_rfl
theorem Rk : bd Tryz.prog env cfg [] 40 D0 = true:=by kernel_rfl
theorem Ru : bd Tryz.prog env cfg [nR,D2] 40 D3 = true:=by kernel_rfl
theorem RD : bd Tryz.prog env cfg [CZ] 40 D5 = true:=by kernel_rfl
theorem RT : bd Tryz.prog env cfg [e53,DW,D8,D9,Ea,DX] 40 Eb = true:=by kernel_rfl
end Go.Proofs.YtpejdgkaapnekaaGreat

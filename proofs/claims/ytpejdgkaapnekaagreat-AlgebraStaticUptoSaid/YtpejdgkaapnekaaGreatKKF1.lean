import Derived.Test.YtpejdgkaapnekaaGreatKPb
import Derived.Test.YtpejdgkaapnekaaGreatKKE
set_option linter.unusedVariables false
set_option linter.unusedSimpArgs false
set_option maxHeartbeats 1000000
namespace Go.Proofs.YtpejdgkaapnekaaGreat
open Go Go.Abs
set_option maxRecDepth 1000000
theorem b92:bh Tryz.prog env cfg [] 40 e92=true:=by kernel_rfl
theorem UF:bh Tryz.prog env cfg [] 40 Gn=true:=by kernel_rfl
theorem UO:bh Tryz.prog env cfg [pf,Gq] 40 Gr=true:=by kernel_rfl
theorem UX:bh Tryz.prog env cfg [Fw] 40 Gt=true:=by kernel_rfl
theorem Vp:bh Tryz.prog env cfg [e53,Gj,Gw,Gx,Gy,Gk] 40 Gz=true:=by kernel_rfl
end Go.Proofs.YtpejdgkaapnekaaGreat
